/- Texts that the walks and laws lean on, side by side. -/
import Derived.Test.YtacnidaafcfgiaaGreatMdb3
import Derived.Test.YtacnidaafcfgiaaGreatMdb9
namespace Go.Ep.M.C
open Go

def rawC (c : List TPart) (k : Int) : List TRun := (c.filter fun p => decide (p.dev = k) && decide (0 < k)).flatMap (·.runs)
theorem rawC_nil (k : Int) : rawC [] k = [] := rfl
theorem rawC_cons (p : TPart) (c : List TPart) (k : Int) : rawC (p :: c) k = (if p.dev = k ∧ 0 < k then p.runs else []) ++ rawC c k := by
  unfold rawC
  rw [List.filter_cons]
  by_cases h : p.dev = k ∧ 0 < k
  · simp [h.1, h.2]
  · rw [if_neg (by simpa using h), if_neg h]; rfl
theorem rawC_app (a b : List TPart) (k : Int) : rawC (a ++ b) k = rawC a k ++ rawC b k := by simp [rawC, List.filter_append]
theorem rawC_bad {c : List TPart} {k : Int} (h : ¬ 0 < k) : rawC c k = [] := by simp [rawC, h]
def hasC (c : List TPart) (k n : Int) : Bool := R.hasR (rawC c k) n
theorem hasC_app (a b : List TPart) (k n : Int) : hasC (a ++ b) k n = (hasC a k n || hasC b k n) := by simp [hasC, rawC_app, R.hasR_app]
def totC (c : List TPart) : Nat := (c.map fun p => p.runs.length).sum
theorem totC_app (a b : List TPart) : totC (a ++ b) = totC a + totC b := by simp [totC]
theorem rawC_len (c : List TPart) (k : Int) : (rawC c k).length ≤ totC c := by
  induction c with
  | nil => simp [rawC]
  | cons p r ih =>
    rw [rawC_cons, List.length_append]
    have : totC (p :: r) = p.runs.length + totC r := by simp [totC]
    split
    · omega
    · simp; omega
theorem sum_zero (ks : List Int) : (ks.map fun _ => 0).sum = 0 := by
  induction ks with
  | nil => rfl
  | cons k r ih => rw [List.map_cons, List.sum_cons, ih]
/-- Over different devices, no more than all. -/
theorem rawC_sum (c : List TPart) (ks : List Int) (h : ks.Nodup) : (ks.map fun k => (rawC c k).length).sum ≤ totC c := by
  induction c with
  | nil => simp only [rawC_nil, List.length_nil, sum_zero]; exact Nat.zero_le _
  | cons p r ih =>
    have e : totC (p :: r) = p.runs.length + totC r := by simp [totC]
    have h1 : (ks.map fun k => (rawC (p :: r) k).length).sum = (ks.map fun k => if p.dev = k ∧ 0 < k then p.runs.length else 0).sum + (ks.map fun k => (rawC r k).length).sum := by
      clear h ih
      induction ks with
      | nil => rfl
      | cons k ks ih2 =>
        simp only [List.map_cons, List.sum_cons, rawC_cons, List.length_append] at ih2 ⊢
        by_cases hc : p.dev = k ∧ 0 < k
        · rw [if_pos hc, if_pos hc]; omega
        · rw [if_neg hc, if_neg hc, List.length_nil]; omega
    have h2 : (ks.map fun k => if p.dev = k ∧ 0 < k then p.runs.length else 0).sum ≤ p.runs.length := by
      clear ih h1 e
      induction ks with
      | nil => simp
      | cons k ks ih2 =>
        obtain ⟨n1, n2⟩ := List.nodup_cons.1 h
        simp only [List.map_cons, List.sum_cons]
        by_cases hk : p.dev = k
        · have h0 : (ks.map fun k => if p.dev = k ∧ 0 < k then p.runs.length else 0).sum = 0 := by
            have : (ks.map fun k => if p.dev = k ∧ 0 < k then p.runs.length else 0) = ks.map fun _ => 0 := by
              refine List.map_congr_left fun q hq => ?_
              rw [if_neg]
              rintro ⟨e, _⟩
              exact n1 (by rw [← hk, e]; exact hq)
            rw [this]; exact sum_zero ks
          rw [h0]
          split <;> omega
        · rw [if_neg (fun h => hk h.1)]
          have := ih2 n2
          omega
    omega

def OrdP (l : List TPart) : Prop := l.Pairwise fun x y => x.dev < y.dev
theorem ordP_ext : ∀ {l l' : List TPart}, OrdP l → OrdP l' → (∀ d, d ∈ l ↔ d ∈ l') → l = l'
  | [], [], _, _, _ => rfl
  | [], y :: r, _, _, h => absurd ((h y).2 (by simp)) (by simp)
  | x :: r, [], _, _, h => absurd ((h x).1 (by simp)) (by simp)
  | x :: r, y :: q, h1, h2, h => by
    obtain ⟨a1, a2⟩ := List.pairwise_cons.1 h1
    obtain ⟨b1, b2⟩ := List.pairwise_cons.1 h2
    have e : x = y := by
      rcases List.mem_cons.1 ((h x).1 (by simp)) with e | hx
      · exact e
      · rcases List.mem_cons.1 ((h y).2 (by simp)) with e | hy
        · exact e.symm
        · have := a1 y hy; have := b1 x hx; omega
    subst e
    congr 1
    refine ordP_ext a2 b2 fun d => ⟨fun hd => ?_, fun hd => ?_⟩
    · rcases List.mem_cons.1 ((h d).1 (List.mem_cons_of_mem _ hd)) with e | hx
      · subst e; have := a1 d hd; omega
      · exact hx
    · rcases List.mem_cons.1 ((h d).2 (List.mem_cons_of_mem _ hd)) with e | hx
      · subst e; have := b1 d hd; omega
      · exact hx
def partsOf (f : Int → List TRun) (ks : List Int) : List TPart := ks.filterMap fun k => if f k = [] then none else some ⟨k, f k⟩
theorem mem_partsOf {f : Int → List TRun} {ks : List Int} {p : TPart} : p ∈ partsOf f ks ↔ p.dev ∈ ks ∧ p.runs ≠ [] ∧ p.runs = f p.dev := by
  unfold partsOf
  rw [List.mem_filterMap]
  constructor
  · rintro ⟨k, hk, h⟩
    split at h
    · cases h
    · rename_i h0; cases h; exact ⟨hk, h0, rfl⟩
  · rintro ⟨h1, h2, h3⟩
    refine ⟨p.dev, h1, ?_⟩
    rw [if_neg (by rw [← h3]; exact h2), ← h3]
theorem ord_partsOf {f : Int → List TRun} {ks : List Int} (h : ks.Pairwise (· < ·)) : OrdP (partsOf f ks) := by
  unfold OrdP partsOf
  rw [List.pairwise_filterMap]
  refine h.imp fun {a b} hab x hx y hy => ?_
  split at hx
  · cases hx
  · split at hy
    · cases hy
    · cases hx; cases hy; exact hab
theorem partsOf_ext {f g : Int → List TRun} {ks ls : List Int} (h1 : ks.Pairwise (· < ·)) (h2 : ls.Pairwise (· < ·)) (hf : ∀ k, f k = g k) (h : ∀ k, f k ≠ [] → (k ∈ ks ↔ k ∈ ls)) : partsOf f ks = partsOf g ls := by
  refine ordP_ext (ord_partsOf h1) (ord_partsOf h2) fun p => ?_
  rw [mem_partsOf, mem_partsOf]
  constructor
  · rintro ⟨a, b, c⟩; exact ⟨(h _ (by rw [← c]; exact b)).1 a, b, by rw [c, hf]⟩
  · rintro ⟨a, b, c⟩; exact ⟨(h _ (by rw [hf, ← c]; exact b)).2 a, b, by rw [c, hf]⟩
theorem len_partsOf (f : Int → List TRun) (ks : List Int) : (partsOf f ks).length ≤ ks.length := List.length_filterMap_le _ _
theorem tot_partsOf (f : Int → List TRun) (ks : List Int) : totC (partsOf f ks) = (ks.map fun k => (f k).length).sum := by
  induction ks with
  | nil => rfl
  | cons k ks ih =>
    have : partsOf f (k :: ks) = (if f k = [] then [] else [⟨k, f k⟩]) ++ partsOf f ks := by
      unfold partsOf
      by_cases h : f k = [] <;> simp [h]
    rw [this, totC_app, ih]
    by_cases h : f k = [] <;> simp [h, totC]
theorem raw_partsOf {f : Int → List TRun} {ks : List Int} (h : ks.Nodup) (k : Int) : rawC (partsOf f ks) k = if k ∈ ks ∧ 0 < k then f k else [] := by
  induction ks with
  | nil => simp [partsOf, rawC]
  | cons q ks ih =>
    obtain ⟨n1, n2⟩ := List.nodup_cons.1 h
    have e : partsOf f (q :: ks) = (if f q = [] then [] else [⟨q, f q⟩]) ++ partsOf f ks := by
      unfold partsOf
      by_cases h : f q = [] <;> simp [h]
    rw [e, rawC_app, ih n2]
    by_cases hq : q = k
    · subst hq
      rw [if_neg (fun (h : q ∈ ks ∧ 0 < q) => n1 h.1), List.append_nil]
      by_cases h0 : f q = []
      · rw [if_pos h0, h0]; simp [rawC]
      · rw [if_neg h0]
        by_cases hp : 0 < q
        · rw [if_pos ⟨List.mem_cons_self, hp⟩]; simp [rawC, hp]
        · rw [if_neg (fun h => hp h.2)]; exact rawC_bad hp
    · have : rawC (if f q = [] then [] else [(⟨q, f q⟩ : TPart)]) k = [] := by
        by_cases h0 : f q = [] <;> simp [h0, rawC, hq]
      rw [this]
      have hm : (k ∈ q :: ks) ↔ k ∈ ks := by simp [Ne.symm hq]
      simp only [hm, List.nil_append]

def dstep (l : List Int) (p : TPart) : List Int := if 0 < p.dev then V.insI l p.dev else l
def devsC (c : List TPart) : List Int := c.foldl dstep []
theorem devs_gen (c : List TPart) : ∀ l : List Int, l.Pairwise (· < ·) → (c.foldl dstep l).Pairwise (· < ·) ∧ (∀ k, k ∈ c.foldl dstep l ↔ k ∈ l ∨ ∃ p ∈ c, p.dev = k ∧ 0 < k) ∧ (c.foldl dstep l).length ≤ l.length + c.length := by
  induction c with
  | nil => intro l h; simp [h]
  | cons p r ih =>
    intro l h
    rw [List.foldl_cons]
    by_cases hp : 0 < p.dev
    · have e : dstep l p = V.insI l p.dev := by simp [dstep, hp]
      rw [e]
      obtain ⟨h1, h2, h3⟩ := ih _ (V.insI_sorted h p.dev)
      refine ⟨h1, fun k => ?_, by have := V.len_insI l p.dev; simp; omega⟩
      rw [h2, V.mem_insI]
      constructor
      · rintro ((rfl | h4) | ⟨x, h4, h5⟩)
        · exact .inr ⟨p, by simp, rfl, hp⟩
        · exact .inl h4
        · exact .inr ⟨x, by simp [h4], h5⟩
      · rintro (h4 | ⟨x, h4, h5, h6⟩)
        · exact .inl (.inr h4)
        · rcases List.mem_cons.1 h4 with rfl | h4
          · exact .inl (.inl h5.symm)
          · exact .inr ⟨x, h4, h5, h6⟩
    · have e : dstep l p = l := by simp [dstep, hp]
      rw [e]
      obtain ⟨h1, h2, h3⟩ := ih _ h
      refine ⟨h1, fun k => ?_, by simp; omega⟩
      rw [h2]
      constructor
      · rintro (h4 | ⟨x, h4, h5⟩)
        · exact .inl h4
        · exact .inr ⟨x, by simp [h4], h5⟩
      · rintro (h4 | ⟨x, h4, h5, h6⟩)
        · exact .inl h4
        · rcases List.mem_cons.1 h4 with rfl | h4
          · rw [h5] at hp; exact absurd h6 hp
          · exact .inr ⟨x, h4, h5, h6⟩
theorem devs_sorted (c : List TPart) : (devsC c).Pairwise (· < ·) := (devs_gen c [] List.Pairwise.nil).1
theorem sorted_nodup {l : List Int} (h : l.Pairwise (· < ·)) : l.Nodup := h.imp fun {a b} h e => by omega
theorem devs_nodup (c : List TPart) : (devsC c).Nodup := sorted_nodup (devs_sorted c)
theorem mem_devs {c : List TPart} {k : Int} : k ∈ devsC c ↔ (∃ p ∈ c, p.dev = k) ∧ 0 < k := by
  have := (devs_gen c [] List.Pairwise.nil).2.1 k
  unfold devsC
  rw [this]
  simp only [List.not_mem_nil, false_or]
  constructor
  · rintro ⟨p, h1, h2, h3⟩; exact ⟨⟨p, h1, h2⟩, h3⟩
  · rintro ⟨⟨p, h1, h2⟩, h3⟩; exact ⟨p, h1, h2, h3⟩
theorem len_devs (c : List TPart) : (devsC c).length ≤ c.length := by simpa [devsC] using (devs_gen c [] List.Pairwise.nil).2.2
theorem raw_devs {c : List TPart} {k : Int} (h : rawC c k ≠ []) : k ∈ devsC c := by
  rw [mem_devs]
  refine Classical.byContradiction fun hn => h ?_
  unfold rawC
  have : (c.filter fun p => decide (p.dev = k) && decide (0 < k)) = [] := by
    rw [List.filter_eq_nil_iff]
    intro p hp
    simp only [Bool.and_eq_true, decide_eq_true_eq]
    rintro ⟨h1, h2⟩
    exact hn ⟨⟨p, hp, h1⟩, h2⟩
  rw [this]; rfl

def opC (op : Bool → Bool → Bool) (a b : List TPart) : List TPart := partsOf (fun k => R.setR op (rawC a k) (rawC b k)) (devsC (a ++ b))
def normC (c : List TPart) : List TPart := partsOf (fun k => R.nrm (rawC c k)) (devsC c)
theorem setR_nil {op : Bool → Bool → Bool} (h0 : op false false = false) : R.setR op [] [] = [] := by
  have := R.setR_props op h0 [] []
  exact R.nf_ext this.1 trivial fun n => by rw [this.2.1]; exact h0
theorem nrm_nil : R.nrm [] = [] := setR_nil rfl
theorem has_opC {op : Bool → Bool → Bool} (h0 : op false false = false) (a b : List TPart) (k n : Int) : hasC (opC op a b) k n = op (hasC a k n) (hasC b k n) := by
  unfold hasC opC
  rw [raw_partsOf (devs_nodup _)]
  split
  · rw [(R.setR_props op h0 _ _).2.1]
  · rename_i h
    have e : rawC a k = [] ∧ rawC b k = [] := by
      have h1 : rawC (a ++ b) k = [] := Classical.byContradiction fun h2 => h ⟨raw_devs h2, (mem_devs.1 (raw_devs h2)).2⟩
      rw [rawC_app] at h1
      simpa using h1
    rw [e.1, e.2]
    show R.hasR [] n = _
    simp [R.hasR, h0]
theorem has_normC (c : List TPart) (k n : Int) : hasC (normC c) k n = hasC c k n := by
  unfold hasC normC
  rw [raw_partsOf (devs_nodup _)]
  split
  · rw [R.nrm_has]
  · rename_i h
    have e : rawC c k = [] := Classical.byContradiction fun h2 => h ⟨raw_devs h2, (mem_devs.1 (raw_devs h2)).2⟩
    rw [e]
/-- In order. -/
structure Canon (c : List TPart) : Prop where
  ord : OrdP c
  nf : ∀ p ∈ c, 0 < p.dev ∧ p.runs ≠ [] ∧ R.Nf p.runs
theorem canon_parts {f : Int → List TRun} {c : List TPart} (h : ∀ k, R.Nf (f k)) : Canon (partsOf f (devsC c)) := ⟨ord_partsOf (devs_sorted c), fun p hp => by
  obtain ⟨h1, h2, h3⟩ := mem_partsOf.1 hp
  exact ⟨(mem_devs.1 h1).2, h2, by rw [h3]; exact h _⟩⟩
theorem canon_op {op : Bool → Bool → Bool} (h0 : op false false = false) (a b : List TPart) : Canon (opC op a b) := canon_parts fun _ => (R.setR_props op h0 _ _).1
theorem canon_norm (c : List TPart) : Canon (normC c) := canon_parts fun _ => R.nrm_nf _
theorem ordP_raw : ∀ {c : List TPart}, OrdP c → ∀ p ∈ c, 0 < p.dev → rawC c p.dev = p.runs
  | [], _, p, hp, _ => by simp at hp
  | q :: r, h, p, hp, h0 => by
    obtain ⟨h1, h2⟩ := List.pairwise_cons.1 h
    rw [rawC_cons]
    rcases List.mem_cons.1 hp with rfl | hp
    · rw [if_pos ⟨rfl, h0⟩]
      have : rawC r p.dev = [] := by
        unfold rawC
        have : (r.filter fun x => decide (x.dev = p.dev) && decide (0 < p.dev)) = [] := by
          rw [List.filter_eq_nil_iff]
          intro x hx
          have := h1 x hx
          simp; omega
        rw [this]; rfl
      rw [this, List.append_nil]
    · have := h1 p hp
      rw [if_neg (by omega), ordP_raw h2 p hp h0]; rfl
theorem Canon.eq_norm {c : List TPart} (h : Canon c) : c = normC c := by
  refine ordP_ext h.ord (canon_norm c).ord fun p => ?_
  unfold normC
  rw [mem_partsOf]
  constructor
  · intro hp
    obtain ⟨h1, h2, h3⟩ := h.nf p hp
    exact ⟨mem_devs.2 ⟨⟨p, hp, rfl⟩, h1⟩, h2, by rw [ordP_raw h.ord p hp h1, R.nrm_self h3]⟩
  · rintro ⟨h1, h2, h3⟩
    obtain ⟨⟨q, hq, hd⟩, h0⟩ := mem_devs.1 h1
    obtain ⟨g1, g2, g3⟩ := h.nf q hq
    have e : rawC c p.dev = q.runs := by rw [← hd]; exact ordP_raw h.ord q hq g1
    rw [e, R.nrm_self g3] at h3
    have : p = q := by cases p; cases q; simp_all
    rw [this]; exact hq
theorem normC_ext {a b : List TPart} (h : ∀ k n, hasC a k n = hasC b k n) : normC a = normC b := by
  have hf : ∀ k, R.nrm (rawC a k) = R.nrm (rawC b k) := fun k => R.nf_ext (R.nrm_nf _) (R.nrm_nf _) fun n => by rw [R.nrm_has, R.nrm_has]; exact h k n
  refine partsOf_ext (devs_sorted a) (devs_sorted b) hf fun k hk => ?_
  have ha : rawC a k ≠ [] := fun e => hk (by rw [e]; exact nrm_nil)
  have hb : rawC b k ≠ [] := fun e => hk (by rw [hf, e]; exact nrm_nil)
  exact ⟨fun _ => raw_devs hb, fun _ => raw_devs ha⟩
theorem Canon.ext {a b : List TPart} (ha : Canon a) (hb : Canon b) (h : ∀ k n, hasC a k n = hasC b k n) : a = b := by rw [ha.eq_norm, hb.eq_norm]; exact normC_ext h
theorem norm_canon {c : List TPart} (h : Canon c) : normC c = c := h.eq_norm.symm
theorem norm_or (a b : List TPart) : normC (a ++ b) = opC (· || ·) a b := (canon_norm _).ext (canon_op rfl a b) fun k n => by rw [has_normC, hasC_app, has_opC rfl]
theorem len_normC (c : List TPart) : (normC c).length ≤ c.length := Nat.le_trans (len_partsOf _ _) (len_devs c)
theorem sum_le {ks : List Int} {f g : Int → Nat} (h : ∀ k, f k ≤ g k) : (ks.map f).sum ≤ (ks.map g).sum := by
  induction ks with
  | nil => simp
  | cons k r ih => have := h k; simp; omega
theorem sum_two (ks : List Int) (f g : Int → Nat) : (ks.map fun k => 2 * (f k + g k)).sum = 2 * ((ks.map f).sum + (ks.map g).sum) := by
  induction ks with
  | nil => rfl
  | cons k r ih => simp; omega
theorem tot_normC (c : List TPart) : totC (normC c) ≤ 2 * totC c := by
  unfold normC
  rw [tot_partsOf]
  refine Nat.le_trans (sum_le (g := fun k => 2 * ((rawC c k).length + 0)) fun k => by have := R.nrm_len (rawC c k); omega) ?_
  rw [sum_two]
  have h1 := rawC_sum c (devsC c) (devs_nodup _)
  have h2 := sum_zero (devsC c)
  omega


theorem get_grow (l : List (Int × List TRun)) : ∀ (m : List (Int × List TRun)) (k : Int), AL.getZ (AL.grow m l) k [] = AL.getZ m k [] ++ (l.filter fun x => decide (x.1 = k)).flatMap (·.2) := by
  induction l with
  | nil => intro m k; simp [AL.grow]
  | cons x r ih =>
    intro m k
    show AL.getZ (AL.grow (AL.set m x.1 (AL.getZ m x.1 [] ++ x.2)) r) k [] = _
    rw [ih, AL.getZ_set, List.filter_cons]
    by_cases h : x.1 = k
    · subst h; simp
    · simp [h]
theorem nodup_grow (l : List (Int × List TRun)) : ∀ m : List (Int × List TRun), (m.map (·.1)).Nodup → ((AL.grow m l).map (·.1)).Nodup := by
  induction l with
  | nil => intro m h; exact h
  | cons x r ih => intro m h; exact ih _ (AL.nodup_set h _ _)
theorem len_grow (l : List (Int × List TRun)) : ∀ m : List (Int × List TRun), (AL.grow m l).length ≤ m.length + l.length := by
  induction l with
  | nil => intro m; exact Nat.le_refl _
  | cons x r ih =>
    intro m
    have h1 := ih (AL.set m x.1 (AL.getZ m x.1 [] ++ x.2))
    have h2 := AL.len_set m x.1 (AL.getZ m x.1 [] ++ x.2)
    show (AL.grow (AL.set m x.1 (AL.getZ m x.1 [] ++ x.2)) r).length ≤ _
    simp only [List.length_cons]
    omega
theorem key_grow (l : List (Int × List TRun)) : ∀ (m : List (Int × List TRun)) (k : Int), k ∈ (AL.grow m l).map (·.1) → k ∈ m.map (·.1) ∨ ∃ x ∈ l, x.1 = k := by
  induction l with
  | nil => intro m k h; exact .inl h
  | cons x r ih =>
    intro m k h
    rcases ih _ k h with h | ⟨y, hy, e⟩
    · rw [AL.keys_set] at h
      split at h
      · exact .inl h
      · rcases List.mem_append.1 h with h | h
        · exact .inl h
        · exact .inr ⟨x, by simp, (List.mem_singleton.1 h).symm⟩
    · exact .inr ⟨y, by simp [hy], e⟩
def toldM (c : List TPart) : List (Int × List TRun) := AL.grow [] (c.filterMap ctx_toldF)
theorem told_get (c : List TPart) (k : Int) : AL.getZ (toldM c) k [] = rawC c k := by
  unfold toldM
  rw [get_grow]
  show [] ++ _ = _
  rw [List.nil_append]
  induction c with
  | nil => rfl
  | cons p r ih =>
    rw [rawC_cons, ← ih, List.filterMap_cons]
    by_cases h0 : 0 < p.dev
    · have e : ctx_toldF p = some (p.dev, p.runs) := by simp [ctx_toldF, h0]
      rw [e]
      simp only [List.filter_cons]
      by_cases h : p.dev = k
      · subst h; simp [h0]
      · simp [h]
    · have e : ctx_toldF p = none := by simp [ctx_toldF, h0]
      rw [e, if_neg (by rintro ⟨h1, h2⟩; omega)]; rfl
theorem told_nodup (c : List TPart) : ((toldM c).map (·.1)).Nodup := nodup_grow _ _ (by simp)
theorem told_len (c : List TPart) : (toldM c).length ≤ c.length := by
  have h1 := len_grow (c.filterMap ctx_toldF) []
  have h2 := List.length_filterMap_le ctx_toldF c
  unfold toldM
  simp at h1
  omega
theorem told_pos {c : List TPart} {k : Int} (h : k ∈ (toldM c).map (·.1)) : 0 < k ∧ k ∈ devsC c := by
  rcases key_grow _ _ _ h with h | ⟨x, hx, rfl⟩
  · simp at h
  · rw [List.mem_filterMap] at hx
    obtain ⟨p, hp, hx⟩ := hx
    unfold ctx_toldF at hx
    split at hx
    · rename_i h0; cases hx; exact ⟨h0, mem_devs.2 ⟨⟨p, hp, rfl⟩, h0⟩⟩
    · cases hx
theorem told_mem {c : List TPart} {e : Int × List TRun} (h : e ∈ toldM c) : e.2 = rawC c e.1 ∧ 0 < e.1 ∧ e.1 ∈ devsC c := by
  have h1 := AL.mem_get (told_nodup c) (k := e.1) (v := e.2) h
  have h2 := told_get c e.1
  unfold AL.getZ at h2
  rw [h1] at h2
  exact ⟨h2, told_pos (List.mem_map.2 ⟨e, h, rfl⟩)⟩
theorem told_at {c : List TPart} {k : Int} (h : rawC c k ≠ []) : (k, rawC c k) ∈ toldM c := by
  have h2 := told_get c k
  unfold AL.getZ at h2
  cases hg : AL.get (toldM c) k with
  | none => rw [hg] at h2; exact absurd h2.symm h
  | some v => rw [hg] at h2; simp only [Option.getD_some] at h2; subst h2; exact AL.get_mem hg
theorem tot_told (c : List TPart) : ((c.filterMap ctx_toldF).map fun x => x.2.length).sum ≤ totC c := by
  induction c with
  | nil => simp
  | cons p r ih =>
    have e : totC (p :: r) = p.runs.length + totC r := by simp [totC]
    rw [List.filterMap_cons]
    by_cases h0 : 0 < p.dev
    · have e2 : ctx_toldF p = some (p.dev, p.runs) := by simp [ctx_toldF, h0]
      rw [e2]; simp only [List.map_cons, List.sum_cons]; omega
    · have e2 : ctx_toldF p = none := by simp [ctx_toldF, h0]
      rw [e2]; simp only; omega
/-- Small enough. -/
def Sm (c : List TPart) : Prop := c.length ≤ 10000000000 ∧ totC c ≤ 10000000000
theorem told_eq (c : List TPart) (h : Sm c) : ctx_told c = pure (toldM c) := by
  unfold ctx_told
  rw [need_true]
  · rfl
  · have := tot_told c
    refine ⟨by have := h.1; omega, ?_⟩
    have := h.2
    omega
theorem order_eq (m : List (Int × List TRun)) (f : Int → List TRun) (ks : List Int) (hl : m.length ≤ 1000000000000) (hr : ∀ e ∈ m, e.2.length ≤ 1000000000000) (hn : (m.map (·.1)).Nodup) (hs : ks.Pairwise (· < ·)) (h1 : ∀ e ∈ m, R.nrm e.2 ≠ [] → e.1 ∈ ks ∧ R.nrm e.2 = f e.1) (h2 : ∀ k ∈ ks, f k ≠ [] → ∃ r, (k, r) ∈ m ∧ R.nrm r = f k) : ctx_order m = pure (partsOf f ks) := by
  unfold ctx_order
  have hall : ∀ Q : List TPart → Prop, (∀ l : List (Int × List TRun), l.Perm m → Q ((l.filter fun e => decide (R.nrm e.2 ≠ [])).map fun e => (⟨e.1, R.nrm e.2⟩ : TPart))) → (loop (ctx_order_l0 m) ([], ([] : List TPart))).wp Q := by
    intro Q hQ
    refine M.loopM (body := ctx_order_l0 m) m (fun L (t : List TPart) => (L, t)) (fun t e => (runs_Norm e.2).det.bind fun v => if 0 < v.length then need ((t.length + 1) * 32 ≤ 140737488355328) (pure (t ++ [(⟨e.1, v⟩ : TPart)])) else pure t) (fun t => pure t)
      (fun l t => t = ((l.filter fun e => decide (R.nrm e.2 ≠ [])).map fun e => (⟨e.1, R.nrm e.2⟩ : TPart))) Q (fun L t hL => ?_) (fun l t y ht hlen hy => ?_) (fun l t hp ht => ?_) [] rfl
    · unfold ctx_order_l0
      show need _ ((nxt _ _).bind _) = need _ ((nxt _ _).bind _)
      refine congrArg (fun k => need _ ((nxt _ _).bind k)) (funext fun o => ?_)
      cases o with
      | none => rfl
      | some i =>
        refine congrArg (fun k => (idx m (Int.ofNat i)).bind k) (funext fun y => ?_)
        rw [bind_assoc]
        refine congrArg (fun k => (runs_Norm y.2).det.bind k) (funext fun v => ?_)
        rw [cond_dec]
        by_cases h : 0 < v.length
        · rw [if_pos (by omega), if_pos h]; rfl
        · rw [if_neg (by omega), if_neg h]; rfl
    · have hle := List.length_filter_le (fun e : Int × List TRun => decide (R.nrm e.2 ≠ [])) l
      have htl : t.length ≤ l.length := by rw [ht, List.length_map]; exact hle
      rw [R.norm_eq y.2 (hr y hy), det_pure, pure_bind]
      refine ⟨if R.nrm y.2 = [] then t else t ++ [⟨y.1, R.nrm y.2⟩], ?_, ?_⟩
      · by_cases h : R.nrm y.2 = []
        · rw [if_neg (by rw [h]; simp), if_pos h]
        · rw [if_pos (by rw [List.length_pos_iff]; exact h), if_neg h, need_true (by omega)]
      · subst ht
        rw [List.filter_append, List.map_append]
        by_cases h : R.nrm y.2 = [] <;> simp [h]
    · subst ht; exact hQ l hp
  refine eq_pure (hall _ fun l hp => ?_)
  show (need _ _).wp _
  have hll := hp.length_eq
  have hle := List.length_filter_le (fun e : Int × List TRun => decide (R.nrm e.2 ≠ [])) l
  have hmem : ∀ d : TPart, d ∈ ((l.filter fun e => decide (R.nrm e.2 ≠ [])).map fun e => (⟨e.1, R.nrm e.2⟩ : TPart)) ↔ d ∈ partsOf f ks := by
    intro d
    rw [mem_partsOf, List.mem_map]
    constructor
    · rintro ⟨e, he, rfl⟩
      rw [List.mem_filter, hp.mem_iff] at he
      have h0 : R.nrm e.2 ≠ [] := by simpa using he.2
      obtain ⟨h3, h4⟩ := h1 e he.1 h0
      exact ⟨h3, h0, h4⟩
    · rintro ⟨h3, h4, h5⟩
      obtain ⟨r, h6, h7⟩ := h2 d.dev h3 (by rw [← h5]; exact h4)
      refine ⟨(d.dev, r), ?_, by show (⟨d.dev, R.nrm r⟩ : TPart) = d; rw [h7, ← h5]⟩
      rw [List.mem_filter, hp.mem_iff]
      refine ⟨h6, ?_⟩
      simp only [decide_eq_true_eq]
      rw [h7, ← h5]; exact h4
  have hnd : ((l.filter fun e => decide (R.nrm e.2 ≠ [])).map fun e => (⟨e.1, R.nrm e.2⟩ : TPart)).Pairwise (fun x y => x.dev ≠ y.dev) := by
    rw [List.pairwise_map]
    have : l.Pairwise (fun x y => x.1 ≠ y.1) := by
      have := (hp.map (·.1)).nodup_iff.2 hn
      exact List.pairwise_map.1 this
    exact (this.filter _)
  refine ⟨by simp only [List.length_map]; omega, ⟨?_, fun l' ⟨hp', hs'⟩ => ?_⟩⟩
  · refine ⟨partsOf f ks, ?_, ?_⟩
    · refine (List.perm_ext_iff_of_nodup ?_ ?_).2 fun d => (hmem d).symm
      · exact (ord_partsOf hs).imp fun {a b} h e => by subst e; omega
      · exact hnd.imp fun {a b} h e => by subst e; exact h rfl
    · exact (ord_partsOf hs).imp fun {a b} h => by simp [ltPart]; omega
  · show l' = _
    refine ordP_ext ?_ (ord_partsOf hs) fun d => by rw [hp'.mem_iff]; exact hmem d
    have hnd' := (hp'.pairwise_iff (fun {a b} h => Ne.symm h)).2 hnd
    exact (hs'.and hnd').imp fun {a b} ⟨h3, h4⟩ => by simp [ltPart] at h3; omega
theorem order_told (c : List TPart) (h : Sm c) : ctx_order (toldM c) = pure (normC c) := by
  refine order_eq _ _ _ (by have := told_len c; have := h.1; omega) (fun e he => ?_) (told_nodup c) (devs_sorted c) (fun e he h0 => ?_) (fun k hk h0 => ?_)
  · rw [(told_mem he).1]; have := rawC_len c e.1; have := h.2; omega
  · obtain ⟨h1, h2, h3⟩ := told_mem he
    exact ⟨h3, by rw [h1]⟩
  · exact ⟨_, told_at (fun e => h0 (by rw [e]; exact nrm_nil)), rfl⟩
theorem Norm_eq (c : List TPart) (h : Sm c) : ctx_Norm c = pure (normC c) := by
  unfold ctx_Norm
  rw [told_eq c h, det_pure, pure_bind, order_told c h, det_pure, pure_bind]
def dotsC (l : List TDot) : List TPart := (l.filter V.goodD).map fun d => ⟨d.dev, [⟨d.n, d.n⟩]⟩
theorem dots_len (l : List TDot) : (dotsC l).length ≤ l.length := by rw [dotsC, List.length_map]; exact List.length_filter_le _ _
theorem dots_tot (l : List TDot) : totC (dotsC l) ≤ l.length := by
  have : totC (dotsC l) = (dotsC l).length := by
    unfold dotsC
    generalize l.filter V.goodD = q
    induction q with
    | nil => rfl
    | cons x r ih => simp [totC] at ih ⊢; omega
  have := dots_len l
  omega
theorem partEq (x y : TPart) : (decide (x.dev = y.dev) && decide (x.runs = y.runs)) = decide (x = y) := by
  rw [Bool.eq_iff_iff]
  cases x; cases y
  simp
theorem eqP_eq (a b : List TPart) (ha : a.length ≤ 1000000000000) (hr : ∀ p ∈ a, p.runs.length ≤ 1000000000000) : slices_EqualFunc_Ctx_Ctx_Part_Part_ctx_eq_c1 a b = pure (decide (a = b)) := by
  unfold slices_EqualFunc_Ctx_Ctx_Part_Part_ctx_eq_c1
  by_cases hl : (a.length : Int) = b.length
  · simp only [hl, decide_true, Bool.not_true, cond_false]
    have := loopAll (body := slices_EqualFunc_Ctx_Ctx_Part_Part_ctx_eq_c1_l0 a b) a (fun i => (i : Int)) (fun i x => decide (b[i]? = some x)) (.brk ()) (.ret false) (fun i x hx hi => by
      have hb : i < b.length := by omega
      have hby := List.getElem?_eq_getElem hb
      unfold slices_EqualFunc_Ctx_Ctx_Part_Part_ctx_eq_c1_l0 ctx_eq_c1
      have h1 : decide ((i : Int) < (a.length : Int)) = true := by simpa using hi
      simp only [h1, cond_true, idx_nat hx, idx_nat hby, pure_bind, R.seq_eq x.runs _ (hr x (List.mem_of_getElem? hx)), det_pure, cond_pure_and, partEq, wSucc (show i < 9223372036854775807 by omega)]
      rw [hby]
      by_cases hxy : x = b[i] <;> simp [hxy, eq_comm, pure_bind]) (by unfold slices_EqualFunc_Ctx_Ctx_Part_Part_ctx_eq_c1_l0; simp)
    rw [show (0 : Int) = ((0 : Nat) : Int) from rfl, this]
    have hiff : (a.zipIdx.all fun y => decide (b[y.2]? = some y.1)) = decide (a = b) := by
      rw [Bool.eq_iff_iff, List.all_eq_true, decide_eq_true_eq]
      constructor
      · intro h
        apply List.ext_getElem?
        intro i
        by_cases hi : i < a.length
        · have := h (a[i], i) (by rw [List.mem_zipIdx_iff_getElem?]; exact List.getElem?_eq_getElem hi)
          simp only [decide_eq_true_eq] at this
          rw [this, List.getElem?_eq_getElem hi]
        · rw [List.getElem?_eq_none (by omega), List.getElem?_eq_none (by omega)]
      · rintro rfl y hy
        rw [List.mem_zipIdx_iff_getElem?] at hy
        simpa using hy
    rw [hiff]
    by_cases h : a = b <;> simp [h, exk, pure_bind]
  · have : ¬ a = b := fun e => hl (by rw [e])
    simp [hl, this]
theorem eq_eq (a b : List TPart) (ha : a.length ≤ 1000000000000) (hr : ∀ p ∈ a, p.runs.length ≤ 1000000000000) : ctx_eq a b = pure (decide (a = b)) := by
  unfold ctx_eq
  rw [eqP_eq a b ha hr, det_pure, pure_bind]
theorem run_le {c : List TPart} : ∀ p ∈ c, p.runs.length ≤ totC c := by
  induction c with
  | nil => intro p hp; simp at hp
  | cons q r ih =>
    intro p hp
    have e : totC (q :: r) = q.runs.length + totC r := by simp [totC]
    rcases List.mem_cons.1 hp with rfl | hp
    · omega
    · have := ih p hp; omega
theorem Good_eq (c : List TPart) (h : Sm c) : ctx_Good c = pure (decide (c = normC c)) := by
  unfold ctx_Good
  rw [Norm_eq c h, det_pure, pure_bind, eq_eq _ _ (by have := h.1; omega) (fun p hp => by have := run_le p hp; have := h.2; omega), det_pure, pure_bind]


theorem rEq_eq (a b : List TPart) (ha : a.length ≤ 1000000000000) (hr : ∀ p ∈ a, p.runs.length ≤ 1000000000000) : r09_Eq a b = pure (decide (a = b)) := by
  unfold r09_Eq
  by_cases hl : (a.length : Int) = b.length
  · simp only [hl, decide_true, Bool.not_true, cond_false]
    have := loopAll (body := r09_Eq_l0 a b) a (fun i => (i : Int)) (fun i x => decide (b[i]? = some x)) (.brk ()) (.ret false) (fun i x hx hi => by
      have hb : i < b.length := by omega
      have hby := List.getElem?_eq_getElem hb
      unfold r09_Eq_l0
      have h1 : decide ((i : Int) < (a.length : Int)) = true := by simpa using hi
      simp only [h1, cond_true, idx_nat hx, idx_nat hby, pure_bind, R.req_eq x.runs _ (hr x (List.mem_of_getElem? hx)), det_pure, wSucc (show i < 9223372036854775807 by omega)]
      rw [hby]
      have he := partEq x b[i]
      by_cases hd : x.dev = (b[i]).dev
      · by_cases hq : x.runs = (b[i]).runs
        · simp only [hd, hq, decide_true, Bool.and_self, eq_comm (a := true), decide_eq_true_eq] at he
          simp [hd, hq, he, pure_bind]
        · have hne : ¬ x = b[i] := fun e => hq (by rw [e])
          have hne2 : ¬ b[i] = x := fun e => hne e.symm
          simp [hd, hq, hne2, pure_bind]
      · have hne2 : ¬ b[i] = x := fun e => hd (by rw [e])
        simp [hd, hne2, pure_bind]) (by unfold r09_Eq_l0; simp)
    rw [show (0 : Int) = ((0 : Nat) : Int) from rfl, this]
    have hiff : (a.zipIdx.all fun y => decide (b[y.2]? = some y.1)) = decide (a = b) := by
      rw [Bool.eq_iff_iff, List.all_eq_true, decide_eq_true_eq]
      constructor
      · intro h
        apply List.ext_getElem?
        intro i
        by_cases hi : i < a.length
        · have := h (a[i], i) (by rw [List.mem_zipIdx_iff_getElem?]; exact List.getElem?_eq_getElem hi)
          simp only [decide_eq_true_eq] at this
          rw [this, List.getElem?_eq_getElem hi]
        · rw [List.getElem?_eq_none (by omega), List.getElem?_eq_none (by omega)]
      · rintro rfl y hy
        rw [List.mem_zipIdx_iff_getElem?] at hy
        simpa using hy
    rw [hiff]
    by_cases h : a = b <;> simp [h, exk, pure_bind]
  · have : ¬ a = b := fun e => hl (by rw [e])
    simp [hl, this]
theorem rEq_sm (a b : List TPart) (h : Sm a) : r09_Eq a b = pure (decide (a = b)) := rEq_eq a b (by have := h.1; omega) fun p hp => by have := run_le p hp; have := h.2; omega
theorem join_nrm (u v : List TRun) : R.setR (· || ·) (R.nrm u) v = R.nrm (u ++ v) := R.nf_ext (R.setR_props _ rfl _ _).1 (R.nrm_nf _) fun n => by rw [(R.setR_props _ rfl _ _).2.1, R.nrm_has, R.nrm_has, R.hasR_app]
theorem rRuns_eq (c : List TPart) (k : Int) (hk : 0 ≤ k) (h : c.length ≤ 1000000000) (ht : totC c ≤ 1000000000) : r09_Runs c k = pure (R.nrm (rawC c k)) := by
  unfold r09_Runs
  have hpre : ∀ i, (rawC (c.take i) k).length ≤ 1000000000 := fun i => by
    have h1 := rawC_len (c.take i) k
    have h2 : totC (c.take i) ≤ totC c := by
      conv => rhs; rw [← List.take_append_drop i c]
      rw [totC_app]; omega
    omega
  have := loopL (body := r09_Runs_l0 c k) c (fun i (t : List TRun) => (t, (i : Int))) (fun t p => if p.dev = k ∧ 0 < k then R.setR (· || ·) t p.runs else t) (fun t => pure t) (fun i t => t = R.nrm (rawC (c.take i) k)) (fun i x t hx hi ht2 => by
    have h1 : decide ((i : Int) < (c.length : Int)) = true := by simpa using hi
    have hxl : x.runs.length ≤ 1000000000 := by have := run_le x (List.mem_of_getElem? hx); omega
    have htl : t.length ≤ 2000000000 := by have := R.nrm_len (rawC (c.take i) k); have := hpre i; rw [ht2]; omega
    unfold r09_Runs_l0
    simp only [h1, cond_true, idx_nat hx, pure_bind, wSucc (show i < 9223372036854775807 by omega), cond_dec]
    have hnext : (if x.dev = k ∧ 0 < k then R.setR (· || ·) t x.runs else t) = R.nrm (rawC (c.take (i + 1)) k) := by
      rw [List.take_add_one, hx, rawC_app, Option.toList, rawC_cons, rawC_nil, List.append_nil, ht2]
      split
      · exact join_nrm _ _
      · rw [List.append_nil]
    refine ⟨?_, hnext⟩
    by_cases hd : x.dev = k
    · by_cases h0 : k = 0
      · have : ¬ (x.dev = k ∧ 0 < k) := by omega
        rw [if_neg this, if_pos hd]
        simp [h0, pure_bind]
      · rw [if_pos (show x.dev = k ∧ 0 < k from ⟨hd, by omega⟩), if_pos hd]
        simp only [h0, decide_false, Bool.not_false, pure_bind, cond_true]
        rw [R.rjoin_eq _ _ (by omega), det_pure, pure_bind, pure_bind]
    · rw [if_neg (fun (q : x.dev = k ∧ 0 < k) => hd q.1), if_neg hd]
      rfl) (fun t _ => by unfold r09_Runs_l0; simp [pure_bind]) [] (by rw [List.take_zero, rawC_nil, nrm_nil])
  rw [show (([] : List TRun), (0 : Int)) = ([], ((0 : Nat) : Int)) from rfl, this]
  have key : ∀ (l : List TPart) (u : List TRun), l.foldl (fun t p => if p.dev = k ∧ 0 < k then R.setR (· || ·) t p.runs else t) (R.nrm u) = R.nrm (u ++ rawC l k) := by
    intro l
    induction l with
    | nil => intro u; simp [rawC]
    | cons p r ih =>
      intro u
      rw [List.foldl_cons, rawC_cons]
      by_cases hp : p.dev = k ∧ 0 < k
      · rw [if_pos hp, if_pos hp, join_nrm, ih, List.append_assoc]
      · rw [if_neg hp, if_neg hp, ih, List.nil_append]
  have h2 := key c []
  rw [nrm_nil, List.nil_append] at h2
  rw [h2]; rfl
/-- All devices, each once. -/
def allD (c : List TPart) : List Int := c.foldl (fun l p => V.insI l p.dev) []
theorem allD_gen (c : List TPart) : ∀ l : List Int, l.Pairwise (· < ·) → (c.foldl (fun l p => V.insI l p.dev) l).Pairwise (· < ·) ∧ (∀ k, k ∈ c.foldl (fun l p => V.insI l p.dev) l ↔ k ∈ l ∨ ∃ p ∈ c, p.dev = k) ∧ (c.foldl (fun l p => V.insI l p.dev) l).length ≤ l.length + c.length := by
  induction c with
  | nil => intro l h; simp [h]
  | cons p r ih =>
    intro l h
    rw [List.foldl_cons]
    obtain ⟨h1, h2, h3⟩ := ih _ (V.insI_sorted h p.dev)
    refine ⟨h1, fun k => ?_, by have := V.len_insI l p.dev; simp; omega⟩
    rw [h2, V.mem_insI]
    constructor
    · rintro ((rfl | h4) | ⟨x, h4, h5⟩)
      · exact .inr ⟨p, by simp, rfl⟩
      · exact .inl h4
      · exact .inr ⟨x, by simp [h4], h5⟩
    · rintro (h4 | ⟨x, h4, h5⟩)
      · exact .inl (.inr h4)
      · rcases List.mem_cons.1 h4 with rfl | h4
        · exact .inl (.inl h5.symm)
        · exact .inr ⟨x, h4, h5⟩
theorem allD_sorted (c : List TPart) : (allD c).Pairwise (· < ·) := (allD_gen c [] List.Pairwise.nil).1
theorem mem_allD {c : List TPart} {k : Int} : k ∈ allD c ↔ ∃ p ∈ c, p.dev = k := by
  have := (allD_gen c [] List.Pairwise.nil).2.1 k
  unfold allD
  rw [this]; simp
theorem len_allD (c : List TPart) : (allD c).length ≤ c.length := by simpa [allD] using (allD_gen c [] List.Pairwise.nil).2.2
theorem ones_len (l : List Int) : (V.ones l).length = l.length := by simp [V.ones]
theorem rdevs_eq (a b : List TPart) (h : a.length + b.length ≤ 10000000000) : r09_devs a b = pure (V.ones (allD (a ++ b))) := by
  unfold r09_devs
  have h1 := loopL (body := r09_devs_l0 a) a (fun i (l : List Int) => (V.ones l, (i : Int))) (fun l p => V.insI l p.dev) (fun l => pure (V.ones l)) (fun i l => l.Pairwise (· < ·) ∧ l.length ≤ i) (fun i x l hx hi ⟨hs, hl⟩ => by
    have h1 : decide ((i : Int) < (a.length : Int)) = true := by simpa using hi
    unfold r09_devs_l0
    simp only [h1, cond_true, idx_nat hx, pure_bind, wSucc (show i < 9223372036854775807 by omega)]
    rw [V.r07_Put_eq _ _ (by rw [ones_len]; omega), det_pure, pure_bind, V.put_ones hs]
    exact ⟨rfl, V.insI_sorted hs _, by have := V.len_insI l x.dev; omega⟩) (fun l _ => by unfold r09_devs_l0; simp [pure_bind]) [] ⟨List.Pairwise.nil, by simp⟩
  have h2 := loopL (body := r09_devs_l1 b) b (fun i (l : List Int) => (V.ones l, (i : Int))) (fun l p => V.insI l p.dev) (fun l => pure (V.ones l)) (fun i l => l.Pairwise (· < ·) ∧ l.length ≤ a.length + i) (fun i x l hx hi ⟨hs, hl⟩ => by
    have h1 : decide ((i : Int) < (b.length : Int)) = true := by simpa using hi
    unfold r09_devs_l1
    simp only [h1, cond_true, idx_nat hx, pure_bind, wSucc (show i < 9223372036854775807 by omega)]
    rw [V.r07_Put_eq _ _ (by rw [ones_len]; omega), det_pure, pure_bind, V.put_ones hs]
    exact ⟨rfl, V.insI_sorted hs _, by have := V.len_insI l x.dev; omega⟩) (fun l _ => by unfold r09_devs_l1; simp [pure_bind]) (allD a) ⟨allD_sorted a, by have := len_allD a; omega⟩
  rw [show (([] : List TDot), (0 : Int)) = (V.ones [], ((0 : Nat) : Int)) from rfl, h1, pure_bind]
  show (loop (r09_devs_l1 b) (V.ones (allD a), ((0 : Nat) : Int))).bind _ = _
  rw [h2, pure_bind]
  unfold allD
  rw [List.foldl_append]
theorem rset_eq (op : Bool → Bool → Bool) (how : Int) (hop : ∀ x y, op x y = if how = 2 then (x && !y) else if how = 1 then (x && y) else (x || y)) (h0 : op false false = false) (a b : List TPart) (oa : ∀ p ∈ a, 0 ≤ p.dev) (ob : ∀ p ∈ b, 0 ≤ p.dev) (ha : a.length ≤ 1000000000) (hb : b.length ≤ 1000000000) (ta : totC a ≤ 1000000000) (tb : totC b ≤ 1000000000) : r09_set a b how = pure (opC op a b) := by
  unfold r09_set
  rw [rdevs_eq a b (by omega), det_pure, pure_bind]
  have hlenA : ∀ k, (R.nrm (rawC a k)).length ≤ 2000000000 := fun k => by have := R.nrm_len (rawC a k); have := rawC_len a k; omega
  have hlenB : ∀ k, (R.nrm (rawC b k)).length ≤ 2000000000 := fun k => by have := R.nrm_len (rawC b k); have := rawC_len b k; omega
  have hop' : ∀ k, R.setR op (R.nrm (rawC a k)) (R.nrm (rawC b k)) = R.setR op (rawC a k) (rawC b k) := fun k => R.nf_ext (R.setR_props op h0 _ _).1 (R.setR_props op h0 _ _).1 fun n => by rw [(R.setR_props op h0 _ _).2.1, (R.setR_props op h0 _ _).2.1, R.nrm_has, R.nrm_has]
  have hkey : ∀ k ∈ allD (a ++ b), 0 ≤ k := fun k hk => by
    obtain ⟨p, hp, rfl⟩ := mem_allD.1 hk
    rcases List.mem_append.1 hp with hp | hp
    · exact oa p hp
    · exact ob p hp
  have hnd : (allD (a ++ b)).length ≤ 2000000000 := by have := len_allD (a ++ b); rw [List.length_append] at this; omega
  have hgo := loopL (body := r09_set_l0 (V.ones (allD (a ++ b))) a b how) (allD (a ++ b)) (fun i (t : List TPart) => ((i : Int), t)) (fun t k => if R.setR op (rawC a k) (rawC b k) = [] then t else t ++ [⟨k, R.setR op (rawC a k) (rawC b k)⟩]) (fun t => pure t) (fun i t => t.length ≤ i) (fun i k t hk hi hl => by
    have h1 : decide ((i : Int) < ((V.ones (allD (a ++ b))).length : Int)) = true := by rw [ones_len]; simpa using hi
    have hx : (V.ones (allD (a ++ b)))[i]? = some ⟨k, 1⟩ := by simp [V.ones, hk]
    have hk0 : 0 ≤ k := hkey k (List.mem_of_getElem? hk)
    unfold r09_set_l0
    simp only [h1, cond_true, idx_nat hx, pure_bind, rRuns_eq a k hk0 ha ta, rRuns_eq b k hk0 hb tb, det_pure, wSucc (show i < 9223372036854775807 by omega)]
    have hl1 := hlenA k
    have hl2 := hlenB k
    rw [R.rjoin_eq _ _ (by omega), det_pure, pure_bind, R.rmeet_eq _ _ (by omega), det_pure, pure_bind, R.rminus_eq _ _ (by omega), det_pure, pure_bind]
    have hz : (cond (decide (how = 1)) (pure (R.setR (· && ·) (R.nrm (rawC a k)) (R.nrm (rawC b k)))) (pure (R.setR (· || ·) (R.nrm (rawC a k)) (R.nrm (rawC b k)))) : M (List TRun)).bind (fun z => cond (decide (how = 2)) (pure (R.setR (fun x y => x && !y) (R.nrm (rawC a k)) (R.nrm (rawC b k)))) (pure z)) = pure (R.setR op (rawC a k) (rawC b k)) := by
      rw [← hop' k]
      by_cases h2 : how = 2
      · subst h2
        have : op = fun x y => x && !y := by funext x y; rw [hop]; simp
        rw [this]; rfl
      · by_cases h1 : how = 1
        · subst h1
          have : op = fun x y => x && y := by funext x y; rw [hop]; simp
          rw [this]; rfl
        · have : op = fun x y => x || y := by funext x y; rw [hop]; simp [h1, h2]
          rw [this]; simp [h1, h2, pure_bind]
    rw [← bind_assoc, hz, pure_bind]
    have hsl := (R.setR_props op h0 (rawC a k) (rawC b k)).2.2
    by_cases hz0 : R.setR op (rawC a k) (rawC b k) = []
    · rw [if_pos hz0]
      simp only [hz0, List.length_nil]
      exact ⟨rfl, by omega⟩
    · rw [if_neg hz0]
      have : decide (0 < ((R.setR op (rawC a k) (rawC b k)).length : Int)) = true := by
        have := List.length_pos_iff.2 hz0
        simp; omega
      rw [this, cond_true, need_true (by simp; omega)]
      exact ⟨rfl, by simp; omega⟩) (fun t _ => by unfold r09_set_l0; rw [ones_len]; simp [pure_bind]) [] (by simp)
  rw [show ((0 : Int), ([] : List TPart)) = (((0 : Nat) : Int), []) from rfl, hgo, pure_bind]
  have key : ∀ (ks : List Int) (t : List TPart), ks.foldl (fun t k => if R.setR op (rawC a k) (rawC b k) = [] then t else t ++ [⟨k, R.setR op (rawC a k) (rawC b k)⟩]) t = t ++ partsOf (fun k => R.setR op (rawC a k) (rawC b k)) ks := by
    intro ks
    induction ks with
    | nil => intro t; simp [partsOf]
    | cons k ks ih =>
      intro t
      rw [List.foldl_cons, ih]
      by_cases h : R.setR op (rawC a k) (rawC b k) = []
      · rw [if_pos h]; simp [partsOf, h]
      · rw [if_neg h]; simp [partsOf, h]
  rw [key, List.nil_append]
  refine congrArg pure (partsOf_ext (allD_sorted _) (devs_sorted _) (fun _ => rfl) fun k hk => ?_)
  have hr : rawC (a ++ b) k ≠ [] := fun e => hk (by
    rw [rawC_app] at e
    have := List.append_eq_nil_iff.1 e
    rw [this.1, this.2]; exact setR_nil h0)
  exact ⟨fun _ => raw_devs hr, fun _ => mem_allD.2 (mem_devs.1 (raw_devs hr)).1⟩
/-- Small, and of devices. -/
structure Ok (c : List TPart) : Prop where
  dev : ∀ p ∈ c, 0 ≤ p.dev
  len : c.length ≤ 1000000000
  tot : totC c ≤ 1000000000
theorem Ok.sm {c : List TPart} (h : Ok c) : Sm c := ⟨by have := h.len; omega, by have := h.tot; omega⟩
section
variable (a b : List TPart) (ha : Ok a) (hb : Ok b)
include ha hb
end
theorem ok_nil : Ok [] := ⟨fun p h => by simp at h, by simp, by simp [totC]⟩
theorem opC_nil (c : List TPart) : opC (· || ·) c [] = normC c := by rw [← norm_or, List.append_nil]
theorem rNorm_eq (c : List TPart) (h : Ok c) : r09_Norm c = pure (normC c) := by
  unfold r09_Norm
  rw [rset_eq (· || ·) 0 (fun x y => by simp) rfl c [] h.dev ok_nil.dev h.len ok_nil.len h.tot ok_nil.tot, det_pure, pure_bind, opC_nil]
theorem rFew_eq (c : List TPart) : r09_Few c = pure (decide (c.length ≤ 30) && c.all fun p => decide (p.runs.length ≤ 30)) := by
  unfold r09_Few
  by_cases h0 : 30 < c.length
  · have : decide ((30 : Int) < (c.length : Int)) = true := by simp; omega
    rw [this, cond_true]
    have : decide (c.length ≤ 30) = false := by simp; omega
    rw [this]; rfl
  · have h1 : decide ((30 : Int) < (c.length : Int)) = false := by simp; omega
    rw [h1, cond_false]
    have := loopAll (body := r09_Few_l0 c) c (fun i => (i : Int)) (fun i x => decide (x.runs.length ≤ 30)) (.brk ()) (.ret false) (fun i x hx hi => by
      have h2 : decide ((i : Int) < (c.length : Int)) = true := by simpa using hi
      unfold r09_Few_l0
      simp only [h2, cond_true, idx_nat hx, pure_bind, cond_dec, wSucc (show i < 9223372036854775807 by omega), decide_eq_true_eq]
      by_cases h3 : x.runs.length ≤ 30
      · rw [if_neg (by omega), if_pos h3]
      · rw [if_pos (by omega), if_neg h3]) (by unfold r09_Few_l0; simp)
    rw [show (0 : Int) = ((0 : Nat) : Int) from rfl, this]
    have hiff : (c.zipIdx.all fun y => decide (y.1.runs.length ≤ 30)) = c.all fun p => decide (p.runs.length ≤ 30) := by
      rw [Bool.eq_iff_iff, List.all_eq_true, List.all_eq_true]
      constructor
      · intro h p hp
        obtain ⟨i, hi⟩ := List.mem_iff_getElem?.1 hp
        exact h (p, i) (List.mem_zipIdx_iff_getElem?.2 hi)
      · intro h y hy
        exact h _ (List.mem_of_getElem? (List.mem_zipIdx_iff_getElem?.1 hy))
    rw [hiff]
    have h4 : decide (c.length ≤ 30) = true := by simp; omega
    rw [h4, Bool.true_and]
    cases c.all fun p => decide (p.runs.length ≤ 30) <;> rfl
theorem few_tot {c : List TPart} (h : (decide (c.length ≤ 30) && c.all fun p => decide (p.runs.length ≤ 30)) = true) : c.length ≤ 30 ∧ totC c ≤ 900 := by
  rw [Bool.and_eq_true, decide_eq_true_eq, List.all_eq_true] at h
  refine ⟨h.1, ?_⟩
  have : ∀ l : List TPart, (∀ p ∈ l, decide (p.runs.length ≤ 30) = true) → totC l ≤ l.length * 30 := by
    intro l
    induction l with
    | nil => intro _; simp [totC]
    | cons p r ih =>
      intro hl
      have e : totC (p :: r) = p.runs.length + totC r := by simp [totC]
      have h1 := ih fun q hq => hl q (by simp [hq])
      have h2 := hl p (by simp)
      simp only [decide_eq_true_eq] at h2
      simp only [List.length_cons]
      omega
  have := this c h.2
  omega


theorem ok_dots {l : List TDot} (h : l.length ≤ 400000000) : Ok (normC (dotsC l)) := ⟨fun p hp => by have := ((canon_norm (dotsC l)).nf p hp).1; omega, by have := len_normC (dotsC l); have := dots_len l; omega, by have := tot_normC (dotsC l); have := dots_tot l; omega⟩
theorem ok_few {c : List TPart} (o : ∀ p ∈ c, 0 ≤ p.dev) (h : c.length ≤ 30 ∧ totC c ≤ 900) : Ok c := ⟨o, by omega, by omega⟩
end Go.Ep.M.C

namespace Go.Ep.M.N
open Go

theorem wU8_mod (n : Int) : IntKind.u8.wrap n = n % 256 := by simp [IntKind.wrap, IntKind.bits, IntKind.signed]
def lenN (n : Nat) : Nat := if n = 0 then 0 else lenN (n / 256) + 1
theorem lenN_zero : lenN 0 = 0 := by rw [lenN]; rfl
theorem lenN_pos {n : Nat} (h : n ≠ 0) : lenN n = lenN (n / 256) + 1 := by rw [lenN, if_neg h]
theorem lenN_le : ∀ (k n : Nat), n < 256 ^ k → lenN n ≤ k
  | 0, n, h => by
    have : n = 0 := by simpa using h
    rw [this, lenN_zero]; exact Nat.le_refl _
  | k + 1, n, h => by
    by_cases h0 : n = 0
    · rw [h0, lenN_zero]; omega
    · rw [lenN_pos h0]
      have := lenN_le k (n / 256) (by rw [Nat.pow_succ] at h; omega)
      omega
theorem lt_lenN : ∀ (n : Nat), n < 256 ^ lenN n := by
  intro n
  induction n using Nat.strongRecOn with
  | _ n ih =>
    by_cases h0 : n = 0
    · rw [h0, lenN_zero]; decide
    · rw [lenN_pos h0, Nat.pow_succ]
      have := ih (n / 256) (by omega)
      omega
theorem lenN_8 {n : Nat} (h : n < 18446744073709551616) : lenN n ≤ 8 := lenN_le 8 n (by simpa using h)

theorem fdiv256 (n : Nat) : Int.fdiv (n : Int) (2 ^ 8) = ((n / 256 : Nat) : Int) := by
  rw [Int.fdiv_eq_ediv_of_nonneg _ (by decide)]
  have : (2 ^ 8 : Int) = 256 := rfl
  rw [this]; omega
theorem len_loop : ∀ (n k : Nat), k + lenN n ≤ 1000 → loop shift_Len_l0 ((n : Int), (k : Int)) = pure (((k + lenN n : Nat)) : Int) := by
  intro n
  induction n using Nat.strongRecOn with
  | _ n ih =>
    intro k hk
    by_cases h0 : n = 0
    · subst h0
      rw [lenN_zero, Nat.add_zero]
      exact loop_done (by unfold shift_Len_l0; simp)
    · rw [lenN_pos h0] at hk ⊢
      rw [loop_next (s' := (((n / 256 : Nat) : Int), ((k + 1 : Nat) : Int))) (by
        unfold shift_Len_l0
        have : decide ((0 : Int) < (n : Int)) = true := by simp; omega
        simp only [this, cond_true, fdiv256, wSucc (show k < 9223372036854775807 by omega)]), ih (n / 256) (by omega) (k + 1) (by omega)]
      congr 2; omega
theorem Len_eq {v : Int} (h0 : 0 ≤ v) (h : v ≤ 18446744073709551615) : shift_Len v = pure (lenN v.toNat : Int) := by
  obtain ⟨n, rfl⟩ := Int.eq_ofNat_of_zero_le h0
  unfold shift_Len
  have := len_loop n 0 (by have := lenN_8 (n := n) (by omega); omega)
  rw [show (0 : Int) = ((0 : Nat) : Int) from rfl, this, pure_bind, Nat.zero_add, Int.toNat_natCast]
def byteAt (n i : Nat) : Int := ((n / 256 ^ i % 256 : Nat) : Int)
theorem byteAt_range (n i : Nat) : 0 ≤ byteAt n i ∧ byteAt n i ≤ 255 := by unfold byteAt; omega
theorem Byte_eq (n i : Nat) (hi : i ≤ 7) : shift_Byte (n : Int) (i : Int) = pure (byteAt n i) := by
  have h8 : i = 0 ∨ i = 1 ∨ i = 2 ∨ i = 3 ∨ i = 4 ∨ i = 5 ∨ i = 6 ∨ i = 7 := by omega
  unfold shift_Byte byteAt
  rw [wU64 (show (0 : Int) ≤ (i : Int) by omega) (by omega), wU64 (show (0 : Int) ≤ 8 * (i : Int) by omega) (by omega)]
  have hd : decide ((7 : Int) < (i : Int)) = false := by simp; omega
  simp only [hd, cond_false]
  rw [need_true (by omega), wU8_mod, Int.fdiv_eq_ediv_of_nonneg _ (by exact Int.le_of_lt (Int.pow_pos (by decide)))]
  congr 1
  have e : (2 : Int) ^ min (8 * (i : Int)).toNat 64 = ((256 ^ i : Nat) : Int) := by
    rcases h8 with rfl | rfl | rfl | rfl | rfl | rfl | rfl | rfl <;> rfl
  rw [e]
  exact (by rw [Int.natCast_emod, Int.natCast_ediv]; rfl)
def be (n : Nat) : Nat → List Int
  | 0 => []
  | k + 1 => byteAt n k :: be n k
theorem be_len (n : Nat) : ∀ k, (be n k).length = k
  | 0 => rfl
  | k + 1 => by simp [be, be_len n k]
def encN (n : Nat) : List Int := (lenN n : Int) :: be n (lenN n)
def encI (v : Int) : List Int := encN v.toNat
theorem encI_len {v : Int} (h : v ≤ 18446744073709551615) : (encI v).length ≤ 9 := by
  have := lenN_8 (n := v.toNat) (by omega)
  simp [encI, encN, be_len]; omega
theorem app_loop (n : Nat) : ∀ (k : Nat) (out : List Int), k ≤ 8 → out.length + k ≤ 100000000000000 → loop (num_Append_l0 (n : Int)) ((k : Int) - 1, out) = pure (out ++ be n k)
  | 0, out, _, _ => by
    rw [be, List.append_nil]
    exact loop_done (by unfold num_Append_l0; simp)
  | k + 1, out, hk, ho => by
    have e : ((k + 1 : Nat) : Int) - 1 = (k : Int) := by omega
    rw [e, loop_next (s' := ((k : Int) - 1, out ++ [byteAt n k])) (by
      unfold num_Append_l0
      have h1 : decide ((0 : Int) ≤ (k : Int)) = true := by simp
      simp only [h1, cond_true, Byte_eq n k (by omega), det_pure, pure_bind]
      rw [need_true (by simp; omega), wI64 (by omega) (by omega)]), app_loop n k _ (by omega) (by simp; omega), be, List.append_assoc]
    rfl
theorem Append_eq (b : List Int) {v : Int} (h0 : 0 ≤ v) (h : v ≤ 18446744073709551615) (hb : b.length ≤ 10000000000000) : num_Append b v = pure (b ++ encI v) := by
  have h8 := lenN_8 (n := v.toNat) (by omega)
  unfold num_Append
  rw [Len_eq h0 h, det_pure, pure_bind, wI64 (show -9223372036854775808 ≤ (b.length : Int) + (lenN v.toNat : Int) by omega) (by omega), wI64 (by omega) (by omega), need_true (by omega), need_true (by simp; omega), need_true (by simp; omega), wU8 (by omega) (by omega), wI64 (by omega) (by omega)]
  have := app_loop v.toNat (lenN v.toNat) (([] : List Int) ++ b ++ [(lenN v.toNat : Int)]) h8 (by simp; omega)
  rw [show ((v.toNat : Nat) : Int) = v by omega] at this
  rw [this, pure_bind]
  simp [encI, encN]

def By (l : List Int) : Prop := ∀ x ∈ l, 0 ≤ x ∧ x ≤ 255
theorem By.drop {l : List Int} (h : By l) (n : Nat) : By (l.drop n) := fun x hx => h x (List.mem_of_mem_drop hx)
theorem By.take {l : List Int} (h : By l) (n : Nat) : By (l.take n) := fun x hx => h x (List.mem_of_mem_take hx)
theorem By.app {a b : List Int} (ha : By a) (hb : By b) : By (a ++ b) := fun x hx => (List.mem_append.1 hx).elim (ha x) (hb x)
theorem By.nil : By [] := fun x hx => by cases hx
theorem by_be (n : Nat) : ∀ k, By (be n k)
  | 0 => By.nil
  | k + 1 => fun x hx => by
    rcases List.mem_cons.1 hx with rfl | h
    · exact byteAt_range n k
    · exact by_be n k x h
theorem by_enc {v : Int} (h : v ≤ 18446744073709551615) : By (encI v) := fun x hx => by
  have := lenN_8 (n := v.toNat) (by omega)
  rcases List.mem_cons.1 hx with rfl | h
  · omega
  · exact by_be _ _ x h

def valB (l : List Int) : Int := l.foldl (fun v x => v * 256 + x) 0
theorem val_gen : ∀ (l : List Int) (v k : Nat), By l → v < 256 ^ k → ∃ n : Nat, l.foldl (fun v x => v * 256 + x) (v : Int) = (n : Int) ∧ n < 256 ^ (k + l.length) ∧ v * 256 ^ l.length ≤ n
  | [], v, k, _, hv => ⟨v, rfl, by simpa using hv, by simp⟩
  | x :: r, v, k, hb, hv => by
    have hx := hb x (by simp)
    obtain ⟨n, h1, h2, h3⟩ := val_gen r (v * 256 + x.toNat) (k + 1) (fun y hy => hb y (by simp [hy])) (by rw [Nat.pow_succ]; omega)
    refine ⟨n, ?_, by rw [show k + (x :: r).length = k + 1 + r.length by simp; omega]; exact h2, ?_⟩
    · rw [List.foldl_cons, ← h1]
      congr 1; omega
    · refine Nat.le_trans ?_ h3
      rw [List.length_cons, Nat.pow_succ]
      have : v * (256 ^ r.length * 256) = v * 256 * 256 ^ r.length := by rw [Nat.mul_comm (256 ^ r.length), Nat.mul_assoc]
      rw [this]
      exact Nat.mul_le_mul_right _ (by omega)
theorem val_range {l : List Int} (h : By l) (h8 : l.length ≤ 8) : 0 ≤ valB l ∧ valB l ≤ 18446744073709551615 := by
  obtain ⟨n, h1, h2, _⟩ := val_gen l 0 0 h (by decide)
  have h3 : 256 ^ (0 + l.length) ≤ 256 ^ 8 := Nat.pow_le_pow_right (by decide) (by omega)
  have h4 : (256 : Nat) ^ 8 = 18446744073709551616 := by decide
  rw [valB, show (0 : Int) = ((0 : Nat) : Int) from rfl, h1]
  omega
theorem bor_eq {v : Nat} {x : Int} (hv : v < 72057594037927936) (hx : 0 ≤ x ∧ x ≤ 255) : bOr .u64 (IntKind.u64.wrap ((v : Int) * 2 ^ 8)) (IntKind.u64.wrap x) = (v : Int) * 256 + x := by
  obtain ⟨y, rfl⟩ := Int.eq_ofNat_of_zero_le hx.1
  have e : ((v : Int) * 2 ^ 8) = ((2 ^ 8 * v : Nat) : Int) := by
    have : (2 ^ 8 : Int) = 256 := rfl
    have : (2 ^ 8 : Nat) = 256 := rfl
    omega
  have hb : 2 ^ 8 * v + y < 18446744073709551616 := by
    have : (2 ^ 8 : Nat) = 256 := rfl
    omega
  rw [e, wU64 (by omega) (by omega), wU64 (by omega) (by omega)]
  unfold bOr
  have bv : ∀ q : Nat, q < 18446744073709551616 → (BitVec.ofInt IntKind.u64.bits (q : Int)).toNat = q := fun q hq => by
    show (BitVec.ofInt 64 (q : Int)).toNat = q
    rw [BitVec.toNat_ofInt]; omega
  rw [BitVec.toNat_or, bv _ (by omega), bv _ (by omega), ← Nat.two_pow_add_eq_or_of_lt (show y < 2 ^ 8 by have : (2 ^ 8 : Nat) = 256 := rfl; omega) v, wU64 (by omega) (by omega)]
  have : (2 ^ 8 : Nat) = 256 := rfl
  omega

def rdN : List Int → Int × Nat × Int
  | [] => (0, 0, 2)
  | n :: r => if 8 < n ∨ (0 < n ∧ r.head? = some 0) then (0, 0, 4) else if (r.length : Int) < n then (0, 0, 2) else (valB (r.take n.toNat), n.toNat + 1, 0)
theorem rdN_cons (n : Int) (r : List Int) : rdN (n :: r) = if 8 < n ∨ (0 < n ∧ r.head? = some 0) then (0, 0, 4) else if (r.length : Int) < n then (0, 0, 2) else (valB (r.take n.toNat), n.toNat + 1, 0) := rfl
theorem rdN_cases (b : List Int) (hb : By b) : (rdN b = (0, 0, 2) ∨ rdN b = (0, 0, 4)) ∨ ∃ n r, b = n :: r ∧ 0 ≤ n ∧ n ≤ 8 ∧ n ≤ (r.length : Int) ∧ ¬ (0 < n ∧ r.head? = some 0) ∧ rdN b = (valB (r.take n.toNat), n.toNat + 1, 0) := by
  cases b with
  | nil => exact .inl (.inl rfl)
  | cons n r =>
    have hn := hb n (by simp)
    rw [rdN_cons]
    by_cases h1 : 8 < n ∨ (0 < n ∧ r.head? = some 0)
    · rw [if_pos h1]; exact .inl (.inr rfl)
    · rw [if_neg h1]
      by_cases h2 : (r.length : Int) < n
      · rw [if_pos h2]; exact .inl (.inl rfl)
      · rw [if_neg h2]
        exact .inr ⟨n, r, rfl, hn.1, by omega, by omega, fun h => h1 (.inr h), rfl⟩
theorem rdN_range (b : List Int) (hb : By b) : 0 ≤ (rdN b).1 ∧ (rdN b).1 ≤ 18446744073709551615 ∧ (rdN b).2.1 ≤ b.length ∧ ((rdN b).2.2 = 0 ∨ (rdN b).2.2 = 2 ∨ (rdN b).2.2 = 4) := by
  rcases rdN_cases b hb with (h | h) | ⟨n, r, rfl, h0, h8, hl, _, h⟩
  · rw [h]; simp
  · rw [h]; simp
  · rw [h]
    have := val_range (l := r.take n.toNat) (fun x hx => hb x (by simp [List.mem_of_mem_take hx])) (by rw [List.length_take]; omega)
    refine ⟨this.1, this.2, ?_, .inl rfl⟩
    simp; omega
theorem head_idx {r : List Int} (h : r ≠ []) : ∃ y, r.head? = some y ∧ r[0]? = some y := by
  cases r with
  | nil => exact absurd rfl h
  | cons y t => exact ⟨y, rfl, rfl⟩
theorem Read_eq (b : List Int) (hb : By b) (hl : b.length ≤ 1000000000000) : num_Read b 0 = pure ((rdN b).1, ((rdN b).2.1 : Int), (rdN b).2.2) := by
  unfold num_Read
  have h0 : decide ((b.length : Int) < 0) = false := by simp
  rw [show decide ((0 : Int) < 0) = false from rfl, cond_false, h0, pure_bind, cond_false]
  cases b with
  | nil => rfl
  | cons n r =>
    have hn := hb n (by simp)
    have hr : By r := fun x hx => hb x (by simp [hx])
    have h1 : decide ((0 : Int) = ((n :: r).length : Int)) = false := by simp; omega
    have hrl : r.length ≤ 1000000000000 := by simp at hl; omega
    have e1 : List.drop (Int.toNat (IntKind.i64.wrap (0 + 1))) (List.take (Int.toNat ((n :: r).length : Int)) (n :: r)) = r := by
      rw [wI64 (by omega) (by omega), Int.toNat_natCast, List.take_length]; rfl
    rw [h1, cond_false, idx_eq (y := n) (by omega) rfl, pure_bind, need_true (by rw [wI64 (by omega) (by omega)]; simp; omega), e1, wI64 (n := n) (by omega) (by omega)]
    rw [rdN_cons]
    have hc : (cond (decide (8 < n)) (pure true) (cond (decide (0 < n)) (cond (decide ((0 : Int) < (r.length : Int))) ((idx r 0).bind fun x14 => pure (decide (x14 = 0))) (pure false)) (pure false)) : M Bool) = pure (decide (8 < n ∨ (0 < n ∧ r.head? = some 0))) := by
      by_cases c1 : 8 < n
      · simp [c1]
      · by_cases c2 : 0 < n
        · by_cases c3 : r = []
          · subst c3; simp [c1, c2]
          · obtain ⟨y, h5, h6⟩ := head_idx c3
            have c4 : 0 < r.length := List.length_pos_iff.2 c3
            simp [c1, c2, c4, idx_eq (l := r) (i := 0) (y := y) (by omega) h6, h5, pure_bind]
        · simp [c1, c2]
    rw [hc, pure_bind]
    by_cases c1 : 8 < n ∨ (0 < n ∧ r.head? = some 0)
    · rw [decide_eq_true c1, cond_true, if_pos c1]; rfl
    · rw [decide_eq_false c1, cond_false, if_neg c1]
      by_cases c2 : (r.length : Int) < n
      · rw [decide_eq_true c2, cond_true, if_pos c2]; rfl
      · rw [decide_eq_false c2, cond_false, if_neg c2, need_true (by omega)]
        have e2 : List.drop (Int.toNat 0) (List.take (Int.toNat (IntKind.i64.wrap n)) (List.drop (Int.toNat (IntKind.i64.wrap (0 + 1))) (List.take (Int.toNat ((n :: r).length : Int)) (n :: r)))) = r.take n.toNat := by
          rw [e1, wI64 (by omega) (by omega)]; rfl
        have hlen : (r.take n.toNat).length = n.toNat := by rw [List.length_take]; omega
        have hloop := loopL (body := num_Read_l0 n 0 (n :: r)) (r.take n.toNat) (fun i t => (t, (i : Int))) (fun v x => v * 256 + x) (fun t => pure t) (fun i t => ∃ m : Nat, t = (m : Int) ∧ m < 256 ^ i) (fun i x t hx hi hI => by
          obtain ⟨m, rfl, hm⟩ := hI
          have hxr := (hr.take n.toNat) x (List.mem_of_getElem? hx)
          have hm7 : m < 72057594037927936 := by
            have h3 : 256 ^ i ≤ 256 ^ 7 := Nat.pow_le_pow_right (by decide) (by omega)
            have h4 : (256 : Nat) ^ 7 = 72057594037927936 := by decide
            omega
          refine ⟨?_, m * 256 + x.toNat, by omega, by rw [Nat.pow_succ]; omega⟩
          unfold num_Read_l0
          have hd : decide ((i : Int) < ((r.take n.toNat).length : Int)) = true := by simpa using hi
          simp only [e2, hd, cond_true, idx_nat hx, pure_bind, bor_eq hm7 hxr, wSucc (show i < 9223372036854775807 by omega)]) (fun t _ => by
          unfold num_Read_l0
          have hd : decide (((r.take n.toNat).length : Int) < ((r.take n.toNat).length : Int)) = false := by simp
          simp only [e2, hd, cond_false, pure_bind]) 0 ⟨0, rfl, by decide⟩
        have hloop' : loop (num_Read_l0 n 0 (n :: r)) (0, 0) = pure (valB (r.take n.toNat)) := hloop
        rw [hloop', pure_bind, wI64 (n := 0 + 1) (by omega) (by omega), wI64 (by omega) (by omega)]
        have : ((0 : Int) + 1 + n) = ((n.toNat + 1 : Nat) : Int) := by omega
        rw [this]
theorem be_val (n : Nat) : ∀ k, valB (be n k) = ((n % 256 ^ k : Nat) : Int) := by
  intro k
  have key : ∀ (k v : Nat), (be n k).foldl (fun v x => v * 256 + x) (v : Int) = ((v * 256 ^ k + n % 256 ^ k : Nat) : Int) := by
    intro k
    induction k with
    | zero => intro v; simp [be, Nat.mod_one]
    | succ k ih =>
      intro v
      rw [be, List.foldl_cons, show (v : Int) * 256 + byteAt n k = ((v * 256 + n / 256 ^ k % 256 : Nat) : Int) by unfold byteAt; omega, ih]
      congr 1
      have h1 : n % 256 ^ (k + 1) = 256 ^ k * (n / 256 ^ k % 256) + n % 256 ^ k := by
        rw [Nat.pow_succ, Nat.mod_mul]; omega
      rw [h1, Nat.add_mul, Nat.pow_succ, Nat.mul_comm (256 ^ k) (n / 256 ^ k % 256), Nat.add_assoc]
      congr 1
      rw [Nat.mul_comm (256 ^ k) 256, Nat.mul_assoc]
  have := key k 0
  simpa [valB] using this
theorem be_head {n : Nat} (h : lenN n ≠ 0) : (be n (lenN n)).head? ≠ some 0 := by
  obtain ⟨k, hk⟩ : ∃ k, lenN n = k + 1 := ⟨lenN n - 1, by omega⟩
  rw [hk, be, List.head?_cons]
  intro e
  have h1 : byteAt n k = 0 := by injection e
  unfold byteAt at h1
  have h2 := lt_lenN n
  rw [hk, Nat.pow_succ] at h2
  have hp : 0 < 256 ^ k := Nat.pow_pos (by decide)
  have h4 : n / 256 ^ k < 256 := (Nat.div_lt_iff_lt_mul hp).2 (by rw [Nat.mul_comm]; exact h2)
  have h3 : n / 256 ^ k = 0 := by
    generalize n / 256 ^ k = q at h1 h4 ⊢
    omega
  have h5 : n < 256 ^ k := by
    rcases Nat.div_eq_zero_iff.1 h3 with h | h
    · omega
    · exact h
  have := lenN_le k n h5
  omega
theorem rdN_enc {v : Int} (h0 : 0 ≤ v) (h : v ≤ 18446744073709551615) (r : List Int) : rdN (encI v ++ r) = (v, (encI v).length, 0) := by
  have h8 := lenN_8 (n := v.toNat) (by omega)
  have hl := be_len v.toNat (lenN v.toNat)
  have hv := be_val v.toNat (lenN v.toNat)
  rw [Nat.mod_eq_of_lt (lt_lenN _)] at hv
  show rdN ((lenN v.toNat : Int) :: (be v.toNat (lenN v.toNat) ++ r)) = _
  rw [rdN_cons, if_neg, if_neg (by rw [List.length_append]; omega)]
  · rw [Int.toNat_natCast, List.take_append_of_le_length (by omega), List.take_of_length_le (by omega), hv]
    simp [encI, encN, hl]; omega
  · intro hc
    rcases hc with hc | ⟨hc1, hc2⟩
    · omega
    · have hne : lenN v.toNat ≠ 0 := by omega
      refine be_head hne ?_
      rw [List.head?_append] at hc2
      obtain ⟨y, h5, _⟩ := head_idx (r := be v.toNat (lenN v.toNat)) (by intro e; rw [e] at hl; simp at hl; omega)
      rw [h5] at hc2 ⊢
      exact hc2
abbrev RS := List Int × Int
structure Ok (s : RS) : Prop where
  by_ : By s.1
  len : s.1.length ≤ 1000000000
  nil : s.2 ≠ 0 → s.1 = []
def failS (e : Int) (s : RS) : RS := if s.2 = 0 ∧ e ≠ 0 then ([], e) else s
def numS (s : RS) : Int × RS := if s.2 ≠ 0 then (0, s) else if (rdN s.1).2.2 ≠ 0 then (0, failS (rdN s.1).2.2 s) else ((rdN s.1).1, (s.1.drop (rdN s.1).2.1, 0))
def uptoS (m : Int) (s : RS) : Int × RS := if m < (numS s).1 then (0, failS 4 (numS s).2) else numS s
def endS (s : RS) : Int × RS := let t := if 0 < s.1.length then failS 4 s else s; (t.2, t)
theorem ok_fail {s : RS} (h : Ok s) (e : Int) : Ok (failS e s) := by
  unfold failS
  by_cases c : s.2 = 0 ∧ e ≠ 0
  · rw [if_pos c]; exact ⟨By.nil, by simp, fun _ => rfl⟩
  · rw [if_neg c]; exact h
theorem fail_bad {s : RS} {e : Int} (h : e ≠ 0) : (failS e s).2 ≠ 0 := by
  unfold failS
  by_cases c : s.2 = 0
  · rw [if_pos ⟨c, h⟩]; exact h
  · rw [if_neg (fun q => c q.1)]; exact c
theorem num_of {s : RS} (h : s.2 ≠ 0) : numS s = (0, s) := if_pos h
theorem ok_num {s : RS} (h : Ok s) : Ok (numS s).2 ∧ 0 ≤ (numS s).1 ∧ (numS s).1 ≤ 18446744073709551615 := by
  unfold numS
  have hr := rdN_range s.1 h.by_
  by_cases c : s.2 ≠ 0
  · rw [if_pos c]; exact ⟨h, by simp, by simp⟩
  · rw [if_neg c]
    by_cases c2 : (rdN s.1).2.2 ≠ 0
    · rw [if_pos c2]; exact ⟨ok_fail h _, by simp, by simp⟩
    · rw [if_neg c2]
      exact ⟨⟨h.by_.drop _, by simp; have := h.len; omega, fun h => absurd rfl h⟩, hr.1, hr.2.1⟩
theorem ok_upto {s : RS} (h : Ok s) {m : Int} (hm : 0 ≤ m) : Ok (uptoS m s).2 ∧ 0 ≤ (uptoS m s).1 ∧ (uptoS m s).1 ≤ m := by
  unfold uptoS
  obtain ⟨h1, h2, h3⟩ := ok_num h
  by_cases c : m < (numS s).1
  · rw [if_pos c]; exact ⟨ok_fail h1 _, by simp, hm⟩
  · rw [if_neg c]; exact ⟨h1, h2, by omega⟩
theorem New_eq (b : List Int) (h : b.length ≤ 1000000000) : pack_New_o b = pure (b, 0) := by
  unfold pack_New_o; rw [need_true (by omega)]
theorem Err_eq (b : List Int) (e : Int) : pack_Reader_Err_o b e = pure (e, b, e) := rfl
theorem Fail_eq (e : Int) (s : RS) : pack_Reader_Fail_o e s.1 s.2 = pure (failS e s) := by
  unfold pack_Reader_Fail_o failS
  by_cases c : s.2 = 0 <;> by_cases c2 : e = 0 <;> simp [c, c2, pure_bind] <;> rw [← c]
theorem take_eq (b : List Int) (n : Nat) (e : Int) (h : n ≤ b.length) : pack_rest_take_o (n : Int) b e = pure (b.take n, b.drop n, e) := by
  unfold pack_rest_take_o
  rw [need_true (by omega), need_true (by omega)]
  simp
theorem Num_eq {s : RS} (h : Ok s) : pack_Reader_Num_o s.1 s.2 = pure (numS s) := by
  unfold pack_Reader_Num_o numS
  rw [Err_eq, det_pure, pure_bind]
  by_cases c : s.2 = 0
  · have hr := rdN_range s.1 h.by_
    simp only [c, decide_true, Bool.not_true, cond_false, Read_eq s.1 h.by_ (by have := h.len; omega), det_pure, pure_bind, ne_eq, not_true_eq_false, if_false]
    by_cases c2 : (rdN s.1).2.2 = 0
    · simp only [c2, decide_true, Bool.not_true, cond_false, take_eq s.1 (rdN s.1).2.1 0 hr.2.2.1, det_pure, pure_bind, not_true_eq_false, if_false]
    · have := Fail_eq (rdN s.1).2.2 s
      rw [c] at this
      simp only [c2, decide_false, Bool.not_false, cond_true, this, det_pure, pure_bind, not_false_eq_true, if_true]
  · simp [c]
theorem Upto_eq {s : RS} (h : Ok s) (m : Int) : pack_Reader_Upto_o m s.1 s.2 = pure (uptoS m s) := by
  unfold pack_Reader_Upto_o uptoS
  rw [Num_eq h, det_pure, pure_bind]
  by_cases c : m < (numS s).1
  · rw [decide_eq_true c, cond_true, if_pos c, Fail_eq 4 (numS s).2, det_pure, pure_bind]
  · rw [decide_eq_false c, cond_false, if_neg c]
theorem Left_eq (s : RS) : pack_Reader_Left_o s.1 s.2 = pure ((s.1.length : Int), s) := by
  unfold pack_Reader_Left_o pack_rest_Left_o
  rw [det_pure, pure_bind]
theorem End_eq (s : RS) : pack_Reader_End_o s.1 s.2 = pure (endS s) := by
  unfold pack_Reader_End_o endS
  rw [Left_eq, det_pure, pure_bind]
  by_cases c : 0 < s.1.length
  · have : decide ((0 : Int) < (s.1.length : Int)) = true := by simpa using c
    simp only [this, cond_true, Fail_eq, det_pure, pure_bind, if_pos c, Err_eq]
  · have : decide ((0 : Int) < (s.1.length : Int)) = false := by simpa using c
    simp only [this, cond_false, pure_bind, if_neg c, Err_eq, det_pure]

theorem put_eq (b row : List Int) (h : row.length + b.length ≤ 100000000000000) : pack_Writer_put_o b row = pure (row ++ b) := by
  unfold pack_Writer_put_o; rw [need_true (by omega)]
theorem WNum_eq {v : Int} (row : List Int) (h0 : 0 ≤ v) (h : v ≤ 18446744073709551615) (hr : row.length ≤ 10000000000000) : pack_Writer_Num_o v row = pure (row ++ encI v) := by
  unfold pack_Writer_Num_o
  have := encI_len h
  rw [Append_eq [] h0 h (by simp), det_pure, pure_bind, List.nil_append, put_eq _ _ (by omega), det_pure, pure_bind]
theorem Bytes_eq (row : List Int) (h : row.length ≤ 100000000000000) : pack_Writer_Bytes_o row = pure (row, row) := by
  unfold pack_Writer_Bytes_o; rw [need_true (by omega)]

structure Sim (B : List Int) (a : Int) (s : RS) : Prop where
  lo : 0 ≤ a
  hi : a ≤ B.length
  eq : s.2 = 0 → s.1 = B.drop a.toNat
structure OkB (B : List Int) : Prop where
  by_ : By B
  len : B.length ≤ 1000000000
theorem Sim.start (B : List Int) : Sim B 0 (B, 0) := ⟨Int.le_refl _, by omega, fun _ => rfl⟩
theorem OkB.ok {B : List Int} (h : OkB B) : Ok (B, 0) := ⟨h.by_, h.len, fun h => absurd rfl h⟩
theorem Sim.bad {B : List Int} {a : Int} {s t : RS} (h : Sim B a s) (ht : t.2 ≠ 0) : Sim B a t := ⟨h.lo, h.hi, fun h2 => absurd h2 ht⟩
variable {B : List Int} {a : Int} {s : RS}
end Go.Ep.M.N

