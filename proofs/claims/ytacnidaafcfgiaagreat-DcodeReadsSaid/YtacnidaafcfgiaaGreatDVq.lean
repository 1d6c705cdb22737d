/- The plain laws of vectors, runs. -/
import Derived.Test.YtacnidaafcfgiaaGreatSp
import Derived.Test.YtacnidaafcfgiaaGreatDSh
namespace Go.Ep.M.V
open Go

def goodD (d : TDot) : Bool := decide (1 ≤ d.dev) && (decide (1 ≤ d.n) && decide (d.n ≤ 281474976710655))
theorem goodD_iff {d : TDot} : goodD d = true ↔ 1 ≤ d.dev ∧ 1 ≤ d.n ∧ d.n ≤ 281474976710655 := by simp [goodD]
theorem dot_Good_eq (d : TDot) : dot_Good d = pure (goodD d) := by
  unfold dot_Good
  rw [cond_pure_and, cond_pure_and, pure_bind]
  refine congrArg pure ?_
  rw [Bool.eq_iff_iff, goodD_iff]
  simp only [Bool.and_eq_true, decide_eq_true_eq]
  omega
theorem r07_Good_eq (d : TDot) : r07_Good d = pure (goodD d) := by
  unfold r07_Good
  rw [cond_pure_and, cond_pure_and, pure_bind]
  refine congrArg pure ?_
  rw [Bool.eq_iff_iff, goodD_iff]
  simp only [Bool.and_eq_true, decide_eq_true_eq]
  omega
theorem r07_Same_eq (a b : List TDot) (h : a.length ≤ 1000000000000) : r07_Same a b = pure (decide (a = b)) := by
  unfold r07_Same
  by_cases hl : (a.length : Int) = b.length
  · simp only [hl, decide_true, Bool.not_true, cond_false]
    have := loopAll (body := r07_Same_l0 a b) a (fun i => (i : Int)) (fun i x => decide (b[i]? = some x)) (.brk ()) (.ret false) (fun i x hx hi => by
      have hb : i < b.length := by omega
      unfold r07_Same_l0
      rw [idx_nat hx, idx_nat (List.getElem?_eq_getElem hb), wSucc (by omega)]
      simp only [pure_bind, List.getElem?_eq_getElem hb, Option.some.injEq]
      have : decide ((i : Int) < (a.length : Int)) = true := by simpa using hi
      rw [this, cond_true]
      by_cases he : b[i] = x
      · subst he; simp
      · rw [if_neg (by simpa using he)]
        have : (decide (x.dev = b[i].dev) && decide (x.n = b[i].n)) = false := by
          rw [Bool.eq_false_iff]
          intro hc
          simp at hc
          apply he
          cases x; cases hh : b[i]; simp_all
        rw [this]; rfl) (by
      unfold r07_Same_l0
      simp)
    rw [show (0 : Int) = ((0 : Nat) : Int) from rfl, this]
    by_cases he : a = b
    · subst he
      rw [if_pos]
      · simp [pure_bind, exk_brk]
      · rw [List.all_eq_true]
        intro ⟨x, i⟩ hx
        rw [List.mk_mem_zipIdx_iff_getElem?] at hx
        simpa using hx
    · rw [if_neg]
      · simp [he, pure_bind, exk_ret]
      · intro hall
        rw [List.all_eq_true] at hall
        apply he
        apply List.ext_getElem (by omega)
        intro i h1 h2
        have := hall (a[i], i) (by rw [List.mk_mem_zipIdx_iff_getElem?]; exact List.getElem?_eq_getElem h1)
        simp [h2] at this
        exact this.symm
  · have hne : a ≠ b := fun e => hl (by rw [e])
    simp [hl, hne]

def ofV : List TDot → Int → Int
  | [], _ => 0
  | d :: r, dev => if d.dev = dev ∧ goodD d = true then max d.n (ofV r dev) else ofV r dev
theorem ofV_range (v : List TDot) (dev : Int) : 0 ≤ ofV v dev ∧ ofV v dev ≤ 281474976710655 := by
  induction v with
  | nil => simp [ofV]
  | cons d r ih =>
    simp only [ofV]
    split
    · rename_i h; have := goodD_iff.1 h.2; omega
    · exact ih
theorem ofV_app (a b : List TDot) (dev : Int) : ofV (a ++ b) dev = max (ofV a dev) (ofV b dev) := by
  induction a with
  | nil => have := ofV_range b dev; simp [ofV]; omega
  | cons d r ih =>
    simp only [List.cons_append, ofV, ih]
    split <;> omega
theorem ofV_bad {v : List TDot} {dev : Int} (h : dev < 1) : ofV v dev = 0 := by
  induction v with
  | nil => rfl
  | cons d r ih =>
    simp only [ofV]
    rw [if_neg, ih]
    intro hh; have := goodD_iff.1 hh.2; omega
theorem ofV_pos {v : List TDot} {dev : Int} : 0 < ofV v dev ↔ ∃ d ∈ v, d.dev = dev ∧ goodD d = true := by
  induction v with
  | nil => simp [ofV]
  | cons d r ih =>
    simp only [ofV, List.mem_cons, exists_eq_or_imp]
    split
    · rename_i h
      have := goodD_iff.1 h.2
      constructor
      · intro _; exact .inl h
      · intro _; omega
    · rename_i h
      rw [ih]
      constructor
      · exact .inr
      · rintro (hh | hh)
        · exact absurd hh h
        · exact hh
def Ord (l : List TDot) : Prop := l.Pairwise fun x y => x.dev < y.dev
theorem ord_ext : ∀ {l l' : List TDot}, Ord l → Ord l' → (∀ d, d ∈ l ↔ d ∈ l') → l = l'
  | [], [], _, _, _ => rfl
  | [], y :: r, _, _, h => absurd ((h y).2 (by simp)) (by simp)
  | x :: r, [], _, _, h => absurd ((h x).1 (by simp)) (by simp)
  | x :: r, y :: q, h1, h2, h => by
    obtain ⟨a1, a2⟩ := List.pairwise_cons.1 h1
    obtain ⟨b1, b2⟩ := List.pairwise_cons.1 h2
    have e : x = y := by
      rcases List.mem_cons.1 ((h x).1 (by simp)) with e | hx
      · exact e
      · rcases List.mem_cons.1 ((h y).2 (by simp)) with e | hy
        · exact e.symm
        · have := a1 y hy; have := b1 x hx; omega
    subst e
    congr 1
    refine ord_ext a2 b2 fun d => ⟨fun hd => ?_, fun hd => ?_⟩
    · rcases List.mem_cons.1 ((h d).1 (List.mem_cons_of_mem _ hd)) with e | hx
      · subst e; have := a1 d hd; omega
      · exact hx
    · rcases List.mem_cons.1 ((h d).2 (List.mem_cons_of_mem _ hd)) with e | hx
      · subst e; have := b1 d hd; omega
      · exact hx

/-- Numbers, rising, each once. -/
def insI : List Int → Int → List Int
  | [], k => [k]
  | a :: r, k => if k < a then k :: a :: r else if k = a then a :: r else a :: insI r k
theorem mem_insI {l : List Int} {k q : Int} : q ∈ insI l k ↔ q = k ∨ q ∈ l := by
  induction l with
  | nil => simp [insI]
  | cons a r ih =>
    unfold insI
    split
    · simp
    · split
      · rename_i h; subst h; simp
      · simp only [List.mem_cons, ih]; constructor
        · rintro (h | h | h) <;> simp [h]
        · rintro (h | h | h) <;> simp [h]
theorem insI_sorted {l : List Int} (h : l.Pairwise (· < ·)) (k : Int) : (insI l k).Pairwise (· < ·) := by
  induction l with
  | nil => simp [insI]
  | cons a r ih =>
    obtain ⟨h1, h2⟩ := List.pairwise_cons.1 h
    unfold insI
    split
    · rename_i hk
      refine List.pairwise_cons.2 ⟨fun x hx => ?_, h⟩
      rcases List.mem_cons.1 hx with rfl | hx
      · exact hk
      · have := h1 x hx; omega
    · split
      · exact h
      · refine List.pairwise_cons.2 ⟨fun x hx => ?_, ih h2⟩
        rcases mem_insI.1 hx with rfl | hx
        · omega
        · exact h1 x hx
theorem len_insI (l : List Int) (k : Int) : (insI l k).length ≤ l.length + 1 := by
  induction l with
  | nil => simp [insI]
  | cons a r ih => unfold insI; split <;> try split
                   all_goals simp_all
def devStep (l : List Int) (d : TDot) : List Int := if goodD d then insI l d.dev else l
/-- The devices that a vector tells of. -/
def devsL (v : List TDot) : List Int := v.foldl devStep []
theorem devs_gen (v : List TDot) : ∀ l : List Int, l.Pairwise (· < ·) → (v.foldl devStep l).Pairwise (· < ·) ∧ (∀ k, k ∈ v.foldl devStep l ↔ k ∈ l ∨ ∃ d ∈ v, d.dev = k ∧ goodD d = true) ∧ (v.foldl devStep l).length ≤ l.length + v.length := by
  induction v with
  | nil => intro l h; simp [h]
  | cons d r ih =>
    intro l h
    simp only [List.foldl_cons]
    unfold devStep
    split
    · rename_i hg
      obtain ⟨h1, h2, h3⟩ := ih _ (insI_sorted h d.dev)
      refine ⟨h1, fun k => ?_, ?_⟩
      · have := h2 k
        unfold devStep at this
        rw [this, mem_insI]
        constructor
        · rintro ((rfl | h) | ⟨e, he, h⟩)
          · exact .inr ⟨d, by simp, rfl, hg⟩
          · exact .inl h
          · exact .inr ⟨e, by simp [he], h⟩
        · rintro (h | ⟨e, he, h⟩)
          · exact .inl (.inr h)
          · rcases List.mem_cons.1 he with rfl | he
            · exact .inl (.inl h.1.symm)
            · exact .inr ⟨e, he, h⟩
      · have := len_insI l d.dev; simp only [List.length_cons]; unfold devStep at h3; omega
    · rename_i hg
      obtain ⟨h1, h2, h3⟩ := ih _ h
      refine ⟨h1, fun k => ?_, ?_⟩
      · have := h2 k
        unfold devStep at this
        rw [this]
        constructor
        · rintro (h | ⟨e, he, h⟩)
          · exact .inl h
          · exact .inr ⟨e, by simp [he], h⟩
        · rintro (h | ⟨e, he, h⟩)
          · exact .inl h
          · rcases List.mem_cons.1 he with rfl | he
            · exact absurd h.2 hg
            · exact .inr ⟨e, he, h⟩
      · simp only [List.length_cons]; unfold devStep at h3; omega
theorem devs_sorted (v : List TDot) : (devsL v).Pairwise (· < ·) := (devs_gen v [] List.Pairwise.nil).1
theorem mem_devs {v : List TDot} {k : Int} : k ∈ devsL v ↔ 0 < ofV v k := by rw [ofV_pos]; simpa [devsL] using (devs_gen v [] List.Pairwise.nil).2.1 k
theorem len_devs (v : List TDot) : (devsL v).length ≤ v.length := by simpa [devsL] using (devs_gen v [] List.Pairwise.nil).2.2
/-- The vector that tells f of each of some devices. -/
def vecOf (f : Int → Int) (ks : List Int) : List TDot := ks.filterMap fun k => if 0 < f k then some ⟨k, f k⟩ else none
theorem mem_vecOf {f : Int → Int} {ks : List Int} {d : TDot} : d ∈ vecOf f ks ↔ d.dev ∈ ks ∧ 0 < d.n ∧ d.n = f d.dev := by
  unfold vecOf
  rw [List.mem_filterMap]
  constructor
  · rintro ⟨k, hk, h⟩
    split at h
    · rename_i h0; cases h; exact ⟨hk, h0, rfl⟩
    · cases h
  · rintro ⟨h1, h2, h3⟩
    refine ⟨d.dev, h1, ?_⟩
    rw [if_pos (by omega)]
    congr 1
    cases d
    simp at h3 ⊢
    exact h3.symm
theorem ord_vecOf {f : Int → Int} {ks : List Int} (h : ks.Pairwise (· < ·)) : Ord (vecOf f ks) := by
  unfold Ord vecOf
  rw [List.pairwise_filterMap]
  refine h.imp fun {a b} hab x hx y hy => ?_
  split at hx <;> cases hx
  split at hy <;> cases hy
  exact hab
def normV (v : List TDot) : List TDot := vecOf (ofV v) (devsL v)
def joinV (a b : List TDot) : List TDot := vecOf (fun k => max (ofV a k) (ofV b k)) (devsL (a ++ b))
def meetV (a b : List TDot) : List TDot := vecOf (fun k => min (ofV a k) (ofV b k)) (devsL (a ++ b))

def toldStep (m : List (Int × Int)) (d : TDot) : List (Int × Int) := if goodD d then AL.set m d.dev (max (AL.getZ m d.dev 0) d.n) else m
def toldM (v : List TDot) : List (Int × Int) := v.foldl toldStep []
theorem told_gen (v : List TDot) : ∀ m : List (Int × Int), (m.map (·.1)).Nodup → ((v.foldl toldStep m).map (·.1)).Nodup ∧ ((∀ k, 0 ≤ AL.getZ m k 0) → ∀ k, AL.getZ (v.foldl toldStep m) k 0 = max (AL.getZ m k 0) (ofV v k)) ∧ (v.foldl toldStep m).length ≤ m.length + v.length ∧ (∀ k, k ∈ (v.foldl toldStep m).map (·.1) → k ∈ m.map (·.1) ∨ 0 < ofV v k) := by
  induction v with
  | nil =>
    intro m h
    refine ⟨h, fun h0 k => ?_, by simp, fun k hk => .inl hk⟩
    have := h0 k
    simp only [List.foldl_nil, ofV]
    omega
  | cons d r ih =>
    intro m h
    simp only [List.foldl_cons]
    by_cases hg : goodD d = true
    · have hd := goodD_iff.1 hg
      have e : toldStep m d = AL.set m d.dev (max (AL.getZ m d.dev 0) d.n) := by simp [toldStep, hg]
      rw [e]
      obtain ⟨h1, h2, h3, h4⟩ := ih _ (AL.nodup_set h d.dev (max (AL.getZ m d.dev 0) d.n))
      refine ⟨h1, fun h0 k => ?_, ?_, fun k hk => ?_⟩
      · rw [h2 (fun q => by rw [AL.getZ_set]; have := h0 q; have := h0 d.dev; split <;> omega), AL.getZ_set]
        simp only [ofV]
        by_cases hk : d.dev = k
        · subst hk
          simp only [if_true, hg, and_self]
          omega
        · simp [hk]
      · have := AL.len_set m d.dev (max (AL.getZ m d.dev 0) d.n)
        simp only [List.length_cons]; omega
      · simp only [ofV]
        rcases h4 k hk with h5 | h5
        · rw [AL.keys_set] at h5
          split at h5
          · exact .inl h5
          · rcases List.mem_append.1 h5 with h5 | h5
            · exact .inl h5
            · right
              rw [List.mem_singleton.1 h5, if_pos ⟨rfl, hg⟩]
              omega
        · right; split <;> omega
    · have e : toldStep m d = m := by simp [toldStep, hg]
      rw [e]
      obtain ⟨h1, h2, h3, h4⟩ := ih m h
      have e2 : ∀ k, ofV (d :: r) k = ofV r k := fun k => by simp only [ofV]; rw [if_neg (fun hh => hg hh.2)]
      exact ⟨h1, fun h0 k => by rw [h2 h0, e2], by simp only [List.length_cons]; omega, fun k hk => by rw [e2]; exact h4 k hk⟩
theorem told_nodup (v : List TDot) : ((toldM v).map (·.1)).Nodup := (told_gen v [] (by simp)).1
theorem told_get (v : List TDot) (k : Int) : AL.getZ (toldM v) k 0 = ofV v k := by
  have := (told_gen v [] (by simp)).2.1 (fun _ => Int.le_refl _) k
  have h2 := ofV_range v k
  rw [toldM, this]
  show max 0 (ofV v k) = _
  omega
theorem told_len (v : List TDot) : (toldM v).length ≤ v.length := by simpa [toldM] using (told_gen v [] (by simp)).2.2.1
theorem told_mem {v : List TDot} {k n : Int} (h : (k, n) ∈ toldM v) : n = ofV v k ∧ 0 < n := by
  have h1 := AL.mem_get (told_nodup v) h
  have h2 : AL.getZ (toldM v) k 0 = n := by simp [AL.getZ, h1]
  rw [told_get] at h2
  have h3 := (told_gen v [] (by simp)).2.2.2 k (List.mem_map.2 ⟨_, h, rfl⟩)
  simp at h3
  omega
theorem normV_app (a b : List TDot) : normV (a ++ b) = joinV a b := by
  unfold normV joinV
  congr 1
  funext k
  exact ofV_app a b k
def updM (h : Int × Int → Int) (m : List (Int × Int)) (L : List Nat) : List (Int × Int) := m.zipIdx.map fun y => if y.2 ∈ L then (y.1.1, h y.1) else y.1
theorem updM_get {h : Int × Int → Int} {m : List (Int × Int)} {L : List Nat} {i : Nat} : (updM h m L)[i]? = (m[i]?).map fun e => if i ∈ L then (e.1, h e) else e := by
  unfold updM
  rw [List.getElem?_map, List.getElem?_zipIdx]
  cases m[i]? <;> simp
theorem updM_len {h : Int × Int → Int} {m : List (Int × Int)} {L : List Nat} : (updM h m L).length = m.length := by simp [updM]
theorem set_at {m : List (Int × Int)} (hn : (m.map (·.1)).Nodup) {i : Nat} {e : Int × Int} (hi : m[i]? = some e) (v : Int) : AL.set m e.1 v = m.set i (e.1, v) := by
  induction m generalizing i with
  | nil => simp at hi
  | cons x r ih =>
    obtain ⟨a, u⟩ := x
    simp only [List.map_cons, List.nodup_cons] at hn
    cases i with
    | zero => simp at hi; subst hi; simp [AL.set]
    | succ i =>
      simp only [List.getElem?_cons_succ] at hi
      have : a ≠ e.1 := fun he => hn.1 (he ▸ List.mem_map.2 ⟨e, List.mem_of_getElem? hi, rfl⟩)
      simp only [AL.set, this, if_false, List.set_cons_succ]
      rw [ih hn.2 hi]
theorem updM_keys {h : Int × Int → Int} {m : List (Int × Int)} {L : List Nat} : (updM h m L).map (·.1) = m.map (·.1) := by
  apply List.ext_getElem?
  intro i
  rw [List.getElem?_map, updM_get, List.getElem?_map]
  cases m[i]? with
  | none => rfl
  | some e => simp only [Option.map_some]; split <;> rfl
theorem updM_snoc {h : Int × Int → Int} {m : List (Int × Int)} (hn : (m.map (·.1)).Nodup) {L : List Nat} {i : Nat} {e : Int × Int} (hi : m[i]? = some e) (hL : i ∉ L) : AL.set (updM h m L) e.1 (h e) = updM h m (L ++ [i]) := by
  have h1 : (updM h m L)[i]? = some e := by rw [updM_get, hi]; simp [hL]
  rw [set_at (by rw [updM_keys]; exact hn) h1]
  apply List.ext_getElem?
  intro j
  rw [List.getElem?_set, updM_len, updM_get, updM_get]
  by_cases hj : i = j
  · subst hj
    have := (List.getElem?_eq_some_iff.1 hi).1
    rw [if_pos rfl, if_pos this, hi]
    simp
  · rw [if_neg hj]
    have : j ∈ L ++ [i] ↔ j ∈ L := by simp; exact fun e => absurd e.symm hj
    simp only [this]
theorem updM_all {h : Int × Int → Int} {m : List (Int × Int)} {L : List Nat} (hL : ∀ i, i < m.length → i ∈ L) : updM h m L = m.map fun e => (e.1, h e) := by
  apply List.ext_getElem?
  intro i
  rw [updM_get, List.getElem?_map]
  cases hm : m[i]? with
  | none => rfl
  | some e => simp [hL i (List.getElem?_eq_some_iff.1 hm).1]
theorem told_at {v : List TDot} {k : Int} (h : 0 < ofV v k) : (k, ofV v k) ∈ toldM v := by
  have h1 : AL.getZ (toldM v) k 0 = ofV v k := told_get v k
  unfold AL.getZ at h1
  cases hg : AL.get (toldM v) k with
  | none => rw [hg] at h1; simp at h1; omega
  | some n => rw [hg] at h1; simp at h1; subst h1; exact AL.get_mem hg

def sumI (l : List Int) : Int := l.foldr (· + ·) 0
theorem sumI_cons (x : Int) (l : List Int) : sumI (x :: l) = x + sumI l := rfl
theorem sumI_app (a b : List Int) : sumI (a ++ b) = sumI a + sumI b := by
  induction a with
  | nil => simp [sumI]
  | cons x r ih => rw [List.cons_append, sumI_cons, sumI_cons, ih]; omega
theorem sumI_perm {a b : List Int} (h : a.Perm b) : sumI a = sumI b := by
  induction h with
  | nil => rfl
  | cons x _ ih => rw [sumI_cons, sumI_cons, ih]
  | swap x y l => simp only [sumI_cons]; omega
  | trans _ _ h1 h2 => rw [h1, h2]
theorem sumI_nonneg {l : List Int} (h : ∀ x ∈ l, 0 ≤ x) : 0 ≤ sumI l := by
  induction l with
  | nil => simp [sumI]
  | cons x r ih => rw [sumI_cons]; have := h x (by simp); have := ih fun y hy => h y (List.mem_cons_of_mem _ hy); omega
theorem sumI_zero {l : List Int} (h : ∀ x ∈ l, 0 ≤ x) : sumI l = 0 ↔ ∀ x ∈ l, x = 0 := by
  induction l with
  | nil => simp [sumI]
  | cons x r ih =>
    have h1 := h x (by simp)
    have h2 := fun y hy => h y (List.mem_cons_of_mem x hy)
    have h3 := sumI_nonneg h2
    rw [sumI_cons, List.forall_mem_cons, ← ih h2]
    omega
theorem sumI_le {l : List Int} {c : Int} (h : ∀ x ∈ l, x ≤ c) : sumI l ≤ l.length * c := by
  induction l with
  | nil => simp [sumI]
  | cons x r ih =>
    have h1 := h x (by simp)
    have h2 := ih fun y hy => h y (List.mem_cons_of_mem x hy)
    rw [sumI_cons, List.length_cons]
    push_cast
    rw [Int.add_mul]
    omega
/-- Where f is nought outside some numbers, the sum is over those. -/
theorem sumI_sub {a b : List Int} (f : Int → Int) (ha : a.Pairwise (· < ·)) (hb : b.Pairwise (· < ·)) (h1 : ∀ x ∈ b, f x ≠ 0 → x ∈ a) (h2 : ∀ x ∈ a, x ∉ b → f x = 0) : sumI (a.map f) = sumI (b.map f) := by
  have hz : ∀ l : List Int, sumI (l.map f) = sumI ((l.filter fun x => decide (f x ≠ 0)).map f) := by
    intro l
    induction l with
    | nil => rfl
    | cons x r ih =>
      rw [List.map_cons, sumI_cons, List.filter_cons]
      by_cases h : f x = 0
      · simpa [h, sumI] using ih
      · simp only [decide_eq_true_eq, h, not_false_eq_true, if_true, ne_eq, List.map_cons, sumI_cons]
        rw [ih]
  rw [hz a, hz b]
  refine sumI_perm (List.Perm.map f ((List.perm_ext_iff_of_nodup ?_ ?_).2 fun x => ?_))
  · exact (ha.imp fun h => by omega).filter _
  · exact (hb.imp fun h => by omega).filter _
  · simp only [List.mem_filter, decide_eq_true_eq]
    constructor
    · rintro ⟨h3, h4⟩
      exact ⟨Classical.byContradiction fun h5 => h4 (h2 x h3 h5), h4⟩
    · rintro ⟨h3, h4⟩
      exact ⟨h1 x h3 h4, h4⟩

def lackF (a b : List TDot) (k : Int) : Int := max 0 (ofV b k - ofV a k)
def lackV (a b : List TDot) : Int := sumI ((devsL b).map (lackF a b))
theorem lackF_range (a b : List TDot) (k : Int) : 0 ≤ lackF a b k ∧ lackF a b k ≤ 281474976710655 := by
  have := ofV_range a k; have := ofV_range b k; unfold lackF; omega
theorem lackV_both (a b c : List TDot) (h : ∀ k, 0 < ofV b k → 0 < ofV c k) : sumI ((devsL c).map (lackF a b)) = lackV a b :=
  sumI_sub _ (devs_sorted _) (devs_sorted _) (fun x hx _ => mem_devs.2 (h x (mem_devs.1 hx))) fun x _ hx => by
    rw [mem_devs] at hx
    have := ofV_range a x; have := ofV_range b x
    unfold lackF; omega
/-- Is the first one at most the second one? -/
def withinV (a b : List TDot) : Bool := (devsL a).all fun k => decide (ofV a k ≤ ofV b k)
theorem withinV_iff {a b : List TDot} : withinV a b = true ↔ ∀ k, ofV a k ≤ ofV b k := by
  unfold withinV
  rw [List.all_eq_true]
  constructor
  · intro h k
    by_cases hk : 0 < ofV a k
    · simpa using h k (mem_devs.2 hk)
    · have := ofV_range b k; omega
  · intro h k _; simpa using h k
theorem lack_zero {a b : List TDot} : lackV b a = 0 ↔ withinV a b = true := by
  unfold lackV
  rw [sumI_zero (fun x hx => by rw [List.mem_map] at hx; obtain ⟨k, _, rfl⟩ := hx; exact (lackF_range b a k).1), withinV_iff]
  constructor
  · intro h k
    by_cases hk : 0 < ofV a k
    · have := h _ (List.mem_map.2 ⟨k, mem_devs.2 hk, rfl⟩)
      unfold lackF at this; omega
    · have := ofV_range b k; omega
  · intro h x hx
    rw [List.mem_map] at hx
    obtain ⟨k, _, rfl⟩ := hx
    have := h k; unfold lackF; omega
theorem sorted_len : ∀ (l : List Int) (lo hi : Int), l.Pairwise (· < ·) → (∀ x ∈ l, lo ≤ x ∧ x ≤ hi) → lo ≤ hi + 1 → (l.length : Int) ≤ hi + 1 - lo
  | [], lo, hi, _, _, h => by simp; omega
  | x :: r, lo, hi, hs, hb, h => by
    obtain ⟨h1, h2⟩ := List.pairwise_cons.1 hs
    have h3 := hb x (by simp)
    have := sorted_len r (x + 1) hi h2 (fun y hy => ⟨by have := h1 y hy; omega, (hb y (List.mem_cons_of_mem _ hy)).2⟩) (by omega)
    simp only [List.length_cons]; omega
/-- No device is above the greatest one. -/
def okL (v : List TDot) : Prop := ∀ d ∈ v, d.dev ≤ 65535
theorem lack_small {a b : List TDot} (h : okL b) : 0 ≤ lackV a b ∧ lackV a b < 18446744073709551616 := by
  have h1 : ∀ x ∈ (devsL b).map (lackF a b), 0 ≤ x ∧ x ≤ 281474976710655 := fun x hx => by
    rw [List.mem_map] at hx; obtain ⟨k, _, rfl⟩ := hx; exact lackF_range a b k
  have h2 := sumI_nonneg fun x hx => (h1 x hx).1
  have h3 := sumI_le fun x hx => (h1 x hx).2
  have h4 := sorted_len (devsL b) 1 65535 (devs_sorted b) (fun k hk => by
    obtain ⟨d, hd, h5, h6⟩ := ofV_pos.1 (mem_devs.1 hk)
    have := h d hd
    have := goodD_iff.1 h6
    omega) (by omega)
  rw [List.length_map] at h3
  unfold lackV
  refine ⟨h2, ?_⟩
  have h5 : ((devsL b).length : Int) * 281474976710655 ≤ 65535 * 281474976710655 := Int.mul_le_mul_of_nonneg_right (by omega) (by omega)
  omega
theorem lack_mod {a b : List TDot} (h : okL b) : lackV a b % 18446744073709551616 = lackV a b := by
  have := lack_small (a := a) h; omega
def ordV (l m : Bool) : Int := if l && m then 0 else if l then -1 else if m then 1 else 2
def cmpD (a b : TDot) : Int := if a = b then 0 else if ltDot a b then -1 else 1
theorem r07_Cmp_eq (a b : TDot) : r07_Cmp a b = pure (cmpD a b) := by
  unfold r07_Cmp cmpD
  have h1 : (decide (a.dev = b.dev) && decide (a.n = b.n)) = decide (a = b) := by
    rw [Bool.eq_iff_iff]; cases a; cases b; simp
  have h2 : (cond (decide (a.dev < b.dev)) (pure true) (cond (decide (a.dev = b.dev)) (pure (decide (a.n < b.n))) (pure false)) : M Bool) = pure (ltDot a b) := by
    rw [cond_pure_and, cond_pure_or]; rfl
  rw [h1, h2, cond_dec, pure_bind]
  split
  · rfl
  · cases ltDot a b <;> rfl
theorem cmpD_neg {a b : TDot} : cmpD a b < 0 ↔ ltDot a b = true := by
  unfold cmpD
  split
  · rename_i h; subst h; simp [ltDot]
  · split <;> simp_all
theorem cmpD_pos {a b : TDot} : 0 < cmpD a b ↔ ltDot b a = true := by
  unfold cmpD
  by_cases h : a = b
  · subst h; simp [ltDot]
  · rw [if_neg h]
    cases a; cases b
    simp only [TDot.mk.injEq] at h
    simp only [ltDot, Bool.or_eq_true, Bool.and_eq_true, decide_eq_true_eq]
    split <;> omega
theorem r07_Put_eq (l : List TDot) (d : TDot) (h : l.length ≤ 1000000000000) : r07_Put l d = pure ((l.filter fun x => ltDot x d) ++ [d] ++ (l.filter fun x => ltDot d x)) := by
  unfold r07_Put
  have c0 : ∀ o : List TDot, o.length ≤ 1000000000000 → True := fun _ _ => trivial
  have h1 := loopL (body := r07_Put_l0 l d) l (fun i (o : List TDot) => ((i : Int), o)) (fun o x => if ltDot x d then o ++ [x] else o) (fun o => pure o) (fun i o => o.length ≤ i) (fun i x o hx hi ho => by
    have h1 : decide ((i : Int) < (l.length : Int)) = true := by simpa using hi
    unfold r07_Put_l0
    simp only [h1, cond_true, idx_nat hx, pure_bind, r07_Cmp_eq, det_pure, wSucc (show i < 9223372036854775807 by omega), cond_dec, cmpD_neg]
    split
    · rw [need_true (by simp; omega)]; exact ⟨rfl, by simp; omega⟩
    · exact ⟨rfl, by omega⟩) (fun o _ => by unfold r07_Put_l0; simp [pure_bind]) [] (by simp)
  have h2 : ∀ o0 : List TDot, o0.length ≤ 1000000000001 → loop (r07_Put_l1 l d) (0, o0) = pure (l.foldl (fun o x => if ltDot d x then o ++ [x] else o) o0) := fun o0 ho0 => by
    have := loopL (body := r07_Put_l1 l d) l (fun i (o : List TDot) => ((i : Int), o)) (fun o x => if ltDot d x then o ++ [x] else o) (fun o => pure o) (fun i o => o.length ≤ o0.length + i) (fun i x o hx hi ho => by
      have h1 : decide ((i : Int) < (l.length : Int)) = true := by simpa using hi
      unfold r07_Put_l1
      simp only [h1, cond_true, idx_nat hx, pure_bind, r07_Cmp_eq, det_pure, wSucc (show i < 9223372036854775807 by omega), cond_dec, cmpD_pos]
      split
      · rw [need_true (by simp; omega)]; exact ⟨rfl, by simp; omega⟩
      · exact ⟨rfl, by omega⟩) (fun o _ => by unfold r07_Put_l1; simp [pure_bind]) o0 (by simp)
    exact this
  have hf : ∀ (p : TDot → Bool) (l o : List TDot), l.foldl (fun o x => if p x then o ++ [x] else o) o = o ++ l.filter p := by
    intro p l
    induction l with
    | nil => simp
    | cons x r ih =>
      intro o
      rw [List.foldl_cons, ih, List.filter_cons]
      split <;> simp
  rw [show ((0 : Int), ([] : List TDot)) = (((0 : Nat) : Int), []) from rfl, h1, hf, pure_bind, need_true, h2, hf, pure_bind]
  · rfl
  · have := List.length_filter_le (fun x => ltDot x d) l; simp; omega
  · have := List.length_filter_le (fun x => ltDot x d) l; simp; omega
/-- Dots with the number 1. -/
def ones (l : List Int) : List TDot := l.map fun k => ⟨k, 1⟩
theorem put_ones {l : List Int} (h : l.Pairwise (· < ·)) (k : Int) : ((ones l).filter fun x => ltDot x ⟨k, 1⟩) ++ [⟨k, 1⟩] ++ ((ones l).filter fun x => ltDot ⟨k, 1⟩ x) = ones (insI l k) := by
  induction l with
  | nil => rfl
  | cons a r ih =>
    obtain ⟨h1, h2⟩ := List.pairwise_cons.1 h
    have i2 := ih h2
    unfold insI
    by_cases c1 : k < a
    · rw [if_pos c1]
      have e1 : (ones (a :: r)).filter (fun x => ltDot x ⟨k, 1⟩) = [] := by
        rw [List.filter_eq_nil_iff]
        intro x hx
        simp only [ones, List.map_cons, List.mem_cons, List.mem_map] at hx
        rcases hx with rfl | ⟨b, hb, rfl⟩
        · simp [ltDot]; omega
        · have := h1 b hb; simp [ltDot]; omega
      have e2 : (ones (a :: r)).filter (fun x => ltDot ⟨k, 1⟩ x) = ones (a :: r) := by
        rw [List.filter_eq_self]
        intro x hx
        simp only [ones, List.map_cons, List.mem_cons, List.mem_map] at hx
        rcases hx with rfl | ⟨b, hb, rfl⟩
        · simp [ltDot]; omega
        · have := h1 b hb; simp [ltDot]; omega
      rw [e1, e2]; rfl
    · rw [if_neg c1]
      by_cases c2 : k = a
      · subst c2
        rw [if_pos rfl]
        have e1 : (ones (k :: r)).filter (fun x => ltDot x ⟨k, 1⟩) = [] := by
          rw [List.filter_eq_nil_iff]
          intro x hx
          simp only [ones, List.map_cons, List.mem_cons, List.mem_map] at hx
          rcases hx with rfl | ⟨b, hb, rfl⟩
          · simp [ltDot]
          · have := h1 b hb; simp [ltDot]; omega
        have e2 : (ones (k :: r)).filter (fun x => ltDot ⟨k, 1⟩ x) = ones r := by
          show List.filter _ (⟨k, 1⟩ :: ones r) = _
          rw [List.filter_cons, if_neg (by simp [ltDot]), List.filter_eq_self]
          intro x hx
          simp only [ones, List.mem_map] at hx
          obtain ⟨b, hb, rfl⟩ := hx
          have := h1 b hb; simp [ltDot]; omega
        rw [e1, e2]; rfl
      · rw [if_neg c2]
        show (List.filter _ (⟨a, 1⟩ :: ones r)) ++ _ ++ (List.filter _ (⟨a, 1⟩ :: ones r)) = ⟨a, 1⟩ :: ones (insI r k)
        rw [List.filter_cons, if_pos (by simp [ltDot]; omega), List.filter_cons, if_neg (by simp [ltDot]; omega), ← i2]
        rfl
theorem vecOf_fold (f : Int → Int) (l : List Int) (o : List TDot) : l.foldl (fun o k => if 0 < f k then o ++ [⟨k, f k⟩] else o) o = o ++ vecOf f l := by
  induction l generalizing o with
  | nil => simp [vecOf]
  | cons k r ih =>
    rw [List.foldl_cons, ih]
    unfold vecOf
    rw [List.filterMap_cons]
    split
    · rename_i h0; simp
    · simp
theorem joinV_nil (v : List TDot) : joinV v [] = normV v := by rw [← normV_app, List.append_nil]

theorem len_vecOf (f : Int → Int) (ks : List Int) : (vecOf f ks).length ≤ ks.length := List.length_filterMap_le _ _
theorem len_join (a b : List TDot) : (joinV a b).length ≤ a.length + b.length := Nat.le_trans (len_vecOf _ _) (by have := len_devs (a ++ b); simpa using this)
theorem len_meet (a b : List TDot) : (meetV a b).length ≤ a.length + b.length := Nat.le_trans (len_vecOf _ _) (by have := len_devs (a ++ b); simpa using this)
theorem len_norm (a : List TDot) : (normV a).length ≤ a.length := Nat.le_trans (len_vecOf _ _) (len_devs a)
theorem vecOf_mono {f : Int → Int} {ks ls : List Int} (h1 : ks.Pairwise (· < ·)) (h2 : ls.Pairwise (· < ·)) (h : ∀ k, 0 < f k → (k ∈ ks ↔ k ∈ ls)) : vecOf f ks = vecOf f ls :=
  ord_ext (ord_vecOf h1) (ord_vecOf h2) fun d => by
    rw [mem_vecOf, mem_vecOf]
    constructor
    · rintro ⟨a, b, c⟩; exact ⟨(h _ (by omega)).1 a, b, c⟩
    · rintro ⟨a, b, c⟩; exact ⟨(h _ (by omega)).2 a, b, c⟩
theorem ofV_mem {l : List TDot} (ho : Ord l) {d : TDot} (hd : d ∈ l) (hg : goodD d = true) : ofV l d.dev = d.n := by
  induction l with
  | nil => simp at hd
  | cons x r ih =>
    obtain ⟨h1, h2⟩ := List.pairwise_cons.1 ho
    simp only [ofV]
    rcases List.mem_cons.1 hd with e | hd
    · subst e
      rw [if_pos ⟨rfl, hg⟩]
      have h3 : ¬ 0 < ofV r d.dev := by
        rw [ofV_pos]
        rintro ⟨y, hy, h4, _⟩
        have := h1 y hy; omega
      have := ofV_range r d.dev
      have := goodD_iff.1 hg
      omega
    · rw [if_neg, ih h2 hd]
      rintro ⟨h3, _⟩
      have := h1 d hd; omega
theorem ofV_vecOf {f : Int → Int} {ks : List Int} (h : ks.Pairwise (· < ·)) (hf : ∀ k, 0 < f k → 1 ≤ k ∧ f k ≤ 281474976710655 ∧ k ∈ ks) (k : Int) : ofV (vecOf f ks) k = max 0 (f k) := by
  by_cases h0 : 0 < f k
  · obtain ⟨h1, h2, h3⟩ := hf k h0
    have := ofV_mem (ord_vecOf h) (d := ⟨k, f k⟩) (mem_vecOf.2 ⟨h3, h0, rfl⟩) (goodD_iff.2 ⟨h1, by simp; omega, h2⟩)
    simp only at this
    omega
  · have h3 : ¬ 0 < ofV (vecOf f ks) k := by
      rw [ofV_pos]
      rintro ⟨d, hd, rfl, _⟩
      have := (mem_vecOf.1 hd); omega
    have := ofV_range (vecOf f ks) k
    omega
theorem ofV_one {v : List TDot} {k : Int} (h : 0 < ofV v k) : 1 ≤ k := by
  refine Classical.byContradiction fun hk => ?_
  rw [ofV_bad (by omega)] at h; omega
theorem ofV_norm (a : List TDot) (k : Int) : ofV (normV a) k = ofV a k := by
  have h := ofV_range a k
  rw [normV, ofV_vecOf (devs_sorted a) (fun q hq => ⟨ofV_one hq, (ofV_range a q).2, mem_devs.2 hq⟩)]; omega
theorem ofV_join (a b : List TDot) (k : Int) : ofV (joinV a b) k = max (ofV a k) (ofV b k) := by rw [← normV_app, ofV_norm, ofV_app]
theorem ofV_meet (a b : List TDot) (k : Int) : ofV (meetV a b) k = min (ofV a k) (ofV b k) := by
  have h := ofV_range a k
  have h' := ofV_range b k
  rw [meetV, ofV_vecOf (devs_sorted _) (fun q hq => ⟨ofV_one (v := a) (by omega), by have := ofV_range a q; omega, mem_devs.2 (by rw [ofV_app]; omega)⟩)]
  omega
/-- Ordered vectors that tell the same are the same. -/
theorem norm_ext {a b : List TDot} (h : ∀ k, ofV a k = ofV b k) : normV a = normV b := by
  unfold normV
  rw [show ofV a = ofV b from funext h]
  refine vecOf_mono (devs_sorted a) (devs_sorted b) fun k _ => ?_
  rw [mem_devs, mem_devs, h]
theorem norm_join (a b : List TDot) : normV (joinV a b) = joinV a b := by
  rw [← normV_app]
  exact norm_ext (ofV_norm _)
theorem norm_norm (a : List TDot) : normV (normV a) = normV a := norm_ext (ofV_norm a)
theorem norm_meet (a b : List TDot) : normV (meetV a b) = meetV a b := by
  have e : ofV (meetV a b) = fun k => min (ofV a k) (ofV b k) := funext (ofV_meet a b)
  unfold normV
  rw [e]
  conv => rhs; unfold meetV
  refine vecOf_mono (devs_sorted _) (devs_sorted _) fun k hk => ?_
  rw [mem_devs, mem_devs, ofV_meet, ofV_app]
  omega
theorem ext_norm {a b : List TDot} (ha : normV a = a) (hb : normV b = b) (h : ∀ k, ofV a k = ofV b k) : a = b := by rw [← ha, ← hb]; exact norm_ext h
theorem join_bad {v : List TDot} {d : TDot} (h : goodD d = false) : joinV v [d] = normV v := by
  rw [← normV_app]
  refine norm_ext fun k => ?_
  have := ofV_range v k
  rw [ofV_app]
  simp [ofV, h]
  omega

theorem okL_join {a b : List TDot} (ha : okL a) (hb : okL b) : okL (joinV a b) := by
  intro d hd
  obtain ⟨h1, h2, h3⟩ := mem_vecOf.1 hd
  have h4 := mem_devs.1 h1
  rw [ofV_pos] at h4
  obtain ⟨x, hx, h5, _⟩ := h4
  rcases List.mem_append.1 hx with hx | hx
  · have := ha x hx; omega
  · have := hb x hx; omega
theorem okL_norm {a : List TDot} (ha : okL a) : okL (normV a) := by
  rw [← joinV_nil]; exact okL_join ha (fun d hd => by simp at hd)
theorem has_iff {v : List TDot} {d : TDot} : (goodD d && decide (d.n ≤ ofV v d.dev)) = true ↔ goodD d = true ∧ d.n ≤ ofV v d.dev := by simp
end Go.Ep.M.V
