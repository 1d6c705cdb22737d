/- Vectors, plainly: what the program's and the reference's functions on vectors compute. No program in sight. -/
import Derived.Test.YtdipflebhoodkaaSp
import Derived.Test.YtdipflebhoodkaaSh
namespace Go.Ep.M
open Go

/-! ### Dots -/
def goodD (d : TDot) : Bool := decide (1 ≤ d.dev) && (decide (1 ≤ d.n) && decide (d.n ≤ 281474976710655))
theorem goodD_iff {d : TDot} : goodD d = true ↔ 1 ≤ d.dev ∧ 1 ≤ d.n ∧ d.n ≤ 281474976710655 := by simp [goodD]
theorem dot_Good_eq (d : TDot) : dot_Good d = pure (goodD d) := by
  unfold dot_Good
  rw [cond_pure_and, cond_pure_and, pure_bind]
  refine congrArg pure ?_
  rw [Bool.eq_iff_iff, goodD_iff]
  simp only [Bool.and_eq_true, decide_eq_true_eq]
  omega
theorem r07_Good_eq (d : TDot) : r07_Good d = pure (goodD d) := by
  unfold r07_Good
  rw [cond_pure_and, cond_pure_and, pure_bind]
  refine congrArg pure ?_
  rw [Bool.eq_iff_iff, goodD_iff]
  simp only [Bool.and_eq_true, decide_eq_true_eq]
  omega
theorem r07_Same_eq (a b : List TDot) (h : a.length ≤ 1000000000000) : r07_Same a b = pure (decide (a = b)) := by
  unfold r07_Same
  by_cases hl : (a.length : Int) = b.length
  · simp only [hl, decide_true, Bool.not_true, cond_false]
    have := loopAll (body := r07_Same_l0 a b) a (fun i => (i : Int)) (fun i x => decide (b[i]? = some x)) (.brk ()) (.ret false) (fun i x hx hi => by
      have hb : i < b.length := by omega
      unfold r07_Same_l0
      rw [idx_nat hx, idx_nat (List.getElem?_eq_getElem hb), wSucc (by omega)]
      simp only [pure_bind, List.getElem?_eq_getElem hb, Option.some.injEq]
      have : decide ((i : Int) < (a.length : Int)) = true := by simpa using hi
      rw [this, cond_true]
      by_cases he : b[i] = x
      · subst he; simp
      · rw [if_neg (by simpa using he)]
        have : (decide (x.dev = b[i].dev) && decide (x.n = b[i].n)) = false := by
          rw [Bool.eq_false_iff]
          intro hc
          simp at hc
          apply he
          cases x; cases hh : b[i]; simp_all
        rw [this]; rfl) (by
      unfold r07_Same_l0
      simp)
    rw [show (0 : Int) = ((0 : Nat) : Int) from rfl, this]
    by_cases he : a = b
    · subst he
      rw [if_pos]
      · simp [pure_bind, exk_brk]
      · rw [List.all_eq_true]
        intro ⟨x, i⟩ hx
        rw [List.mk_mem_zipIdx_iff_getElem?] at hx
        simpa using hx
    · rw [if_neg]
      · simp [he, pure_bind, exk_ret]
      · intro hall
        rw [List.all_eq_true] at hall
        apply he
        apply List.ext_getElem (by omega)
        intro i h1 h2
        have := hall (a[i], i) (by rw [List.mk_mem_zipIdx_iff_getElem?]; exact List.getElem?_eq_getElem h1)
        simp [h2] at this
        exact this.symm
  · have hne : a ≠ b := fun e => hl (by rw [e])
    simp [hl, hne]

/-! ### What a vector tells -/
def ofV : List TDot → Int → Int
  | [], _ => 0
  | d :: r, dev => if d.dev = dev ∧ goodD d = true then max d.n (ofV r dev) else ofV r dev
theorem ofV_range (v : List TDot) (dev : Int) : 0 ≤ ofV v dev ∧ ofV v dev ≤ 281474976710655 := by
  induction v with
  | nil => simp [ofV]
  | cons d r ih =>
    simp only [ofV]
    split
    · rename_i h; have := goodD_iff.1 h.2; omega
    · exact ih
theorem ofV_app (a b : List TDot) (dev : Int) : ofV (a ++ b) dev = max (ofV a dev) (ofV b dev) := by
  induction a with
  | nil => have := ofV_range b dev; simp [ofV]; omega
  | cons d r ih =>
    simp only [List.cons_append, ofV, ih]
    split <;> omega
theorem ofV_bad {v : List TDot} {dev : Int} (h : dev < 1) : ofV v dev = 0 := by
  induction v with
  | nil => rfl
  | cons d r ih =>
    simp only [ofV]
    rw [if_neg, ih]
    intro hh; have := goodD_iff.1 hh.2; omega
theorem ofV_pos {v : List TDot} {dev : Int} : 0 < ofV v dev ↔ ∃ d ∈ v, d.dev = dev ∧ goodD d = true := by
  induction v with
  | nil => simp [ofV]
  | cons d r ih =>
    simp only [ofV, List.mem_cons, exists_eq_or_imp]
    split
    · rename_i h
      have := goodD_iff.1 h.2
      constructor
      · intro _; exact .inl h
      · intro _; omega
    · rename_i h
      rw [ih]
      constructor
      · exact .inr
      · rintro (hh | hh)
        · exact absurd hh h
        · exact hh
theorem r08_Of_eq (v : List TDot) (dev : Int) (h : v.length ≤ 1000000000000) : r08_Of v dev = pure (ofV v dev) := by
  have hf : ∀ (v : List TDot) (n : Int), 0 ≤ n → v.foldl (fun n d => if d.dev = dev ∧ goodD d = true ∧ n < d.n then d.n else n) n = max n (ofV v dev) := by
    intro v
    induction v with
    | nil => intro n hn; simp [ofV]; omega
    | cons d r ih =>
      intro n hn
      have hr := ofV_range r dev
      simp only [List.foldl_cons, ofV]
      by_cases h1 : d.dev = dev ∧ goodD d = true
      · have hg := goodD_iff.1 h1.2
        rw [if_pos h1]
        by_cases h2 : n < d.n
        · rw [if_pos ⟨h1.1, h1.2, h2⟩, ih _ (by omega)]; omega
        · rw [if_neg (fun hh => h2 hh.2.2), ih _ hn]; omega
      · rw [if_neg h1, if_neg (fun hh => h1 ⟨hh.1, hh.2.1⟩), ih _ hn]
  unfold r08_Of
  have := loopL (body := r08_Of_l0 v dev) v (fun i (n : Int) => (n, (i : Int))) (fun n d => if d.dev = dev ∧ goodD d = true ∧ n < d.n then d.n else n) (fun n => pure n) (fun _ _ => True) (fun i x n hx hi _ => by
    refine ⟨?_, trivial⟩
    unfold r08_Of_l0
    have h1 : decide ((i : Int) < (v.length : Int)) = true := by simpa using hi
    simp only [h1, cond_true, idx_nat hx, pure_bind, r07_Good_eq, det_pure, wSucc (show i < 9223372036854775807 by omega)]
    by_cases c1 : x.dev = dev
    · cases c2 : goodD x
      · simp [c1, pure_bind]
      · by_cases c3 : n < x.n <;> simp [c1, c3, pure_bind]
    · simp [c1, pure_bind]) (fun n _ => by unfold r08_Of_l0; simp [pure_bind]) 0 trivial
  rw [show ((0 : Int), (0 : Int)) = ((0 : Int), ((0 : Nat) : Int)) from rfl, this, hf v 0 (by omega)]
  have := ofV_range v dev
  simp only [pure_bind]
  congr 1
  omega

/-! ### Vectors in order -/
def Ord (l : List TDot) : Prop := l.Pairwise fun x y => x.dev < y.dev
theorem ord_ext : ∀ {l l' : List TDot}, Ord l → Ord l' → (∀ d, d ∈ l ↔ d ∈ l') → l = l'
  | [], [], _, _, _ => rfl
  | [], y :: r, _, _, h => absurd ((h y).2 (by simp)) (by simp)
  | x :: r, [], _, _, h => absurd ((h x).1 (by simp)) (by simp)
  | x :: r, y :: q, h1, h2, h => by
    obtain ⟨a1, a2⟩ := List.pairwise_cons.1 h1
    obtain ⟨b1, b2⟩ := List.pairwise_cons.1 h2
    have e : x = y := by
      rcases List.mem_cons.1 ((h x).1 (by simp)) with e | hx
      · exact e
      · rcases List.mem_cons.1 ((h y).2 (by simp)) with e | hy
        · exact e.symm
        · have := a1 y hy; have := b1 x hx; omega
    subst e
    congr 1
    refine ord_ext a2 b2 fun d => ⟨fun hd => ?_, fun hd => ?_⟩
    · rcases List.mem_cons.1 ((h d).1 (List.mem_cons_of_mem _ hd)) with e | hx
      · subst e; have := a1 d hd; omega
      · exact hx
    · rcases List.mem_cons.1 ((h d).2 (List.mem_cons_of_mem _ hd)) with e | hx
      · subst e; have := b1 d hd; omega
      · exact hx

/-- Numbers, rising, each once. -/
def insI : List Int → Int → List Int
  | [], k => [k]
  | a :: r, k => if k < a then k :: a :: r else if k = a then a :: r else a :: insI r k
theorem mem_insI {l : List Int} {k q : Int} : q ∈ insI l k ↔ q = k ∨ q ∈ l := by
  induction l with
  | nil => simp [insI]
  | cons a r ih =>
    unfold insI
    split
    · simp
    · split
      · rename_i h; subst h; simp
      · simp only [List.mem_cons, ih]; constructor
        · rintro (h | h | h) <;> simp [h]
        · rintro (h | h | h) <;> simp [h]
theorem insI_sorted {l : List Int} (h : l.Pairwise (· < ·)) (k : Int) : (insI l k).Pairwise (· < ·) := by
  induction l with
  | nil => simp [insI]
  | cons a r ih =>
    obtain ⟨h1, h2⟩ := List.pairwise_cons.1 h
    unfold insI
    split
    · rename_i hk
      refine List.pairwise_cons.2 ⟨fun x hx => ?_, h⟩
      rcases List.mem_cons.1 hx with rfl | hx
      · exact hk
      · have := h1 x hx; omega
    · split
      · exact h
      · refine List.pairwise_cons.2 ⟨fun x hx => ?_, ih h2⟩
        rcases mem_insI.1 hx with rfl | hx
        · omega
        · exact h1 x hx
theorem len_insI (l : List Int) (k : Int) : (insI l k).length ≤ l.length + 1 := by
  induction l with
  | nil => simp [insI]
  | cons a r ih => unfold insI; split <;> try split
                   all_goals simp_all
def devStep (l : List Int) (d : TDot) : List Int := if goodD d then insI l d.dev else l
/-- The devices that a vector tells of. -/
def devsL (v : List TDot) : List Int := v.foldl devStep []
theorem devs_gen (v : List TDot) : ∀ l : List Int, l.Pairwise (· < ·) → (v.foldl devStep l).Pairwise (· < ·) ∧ (∀ k, k ∈ v.foldl devStep l ↔ k ∈ l ∨ ∃ d ∈ v, d.dev = k ∧ goodD d = true) ∧ (v.foldl devStep l).length ≤ l.length + v.length := by
  induction v with
  | nil => intro l h; simp [h]
  | cons d r ih =>
    intro l h
    simp only [List.foldl_cons]
    unfold devStep
    split
    · rename_i hg
      obtain ⟨h1, h2, h3⟩ := ih _ (insI_sorted h d.dev)
      refine ⟨h1, fun k => ?_, ?_⟩
      · have := h2 k
        unfold devStep at this
        rw [this, mem_insI]
        constructor
        · rintro ((rfl | h) | ⟨e, he, h⟩)
          · exact .inr ⟨d, by simp, rfl, hg⟩
          · exact .inl h
          · exact .inr ⟨e, by simp [he], h⟩
        · rintro (h | ⟨e, he, h⟩)
          · exact .inl (.inr h)
          · rcases List.mem_cons.1 he with rfl | he
            · exact .inl (.inl h.1.symm)
            · exact .inr ⟨e, he, h⟩
      · have := len_insI l d.dev; simp only [List.length_cons]; unfold devStep at h3; omega
    · rename_i hg
      obtain ⟨h1, h2, h3⟩ := ih _ h
      refine ⟨h1, fun k => ?_, ?_⟩
      · have := h2 k
        unfold devStep at this
        rw [this]
        constructor
        · rintro (h | ⟨e, he, h⟩)
          · exact .inl h
          · exact .inr ⟨e, by simp [he], h⟩
        · rintro (h | ⟨e, he, h⟩)
          · exact .inl h
          · rcases List.mem_cons.1 he with rfl | he
            · exact absurd h.2 hg
            · exact .inr ⟨e, he, h⟩
      · simp only [List.length_cons]; unfold devStep at h3; omega
theorem devs_sorted (v : List TDot) : (devsL v).Pairwise (· < ·) := (devs_gen v [] List.Pairwise.nil).1
theorem mem_devs {v : List TDot} {k : Int} : k ∈ devsL v ↔ 0 < ofV v k := by rw [ofV_pos]; simpa [devsL] using (devs_gen v [] List.Pairwise.nil).2.1 k
theorem len_devs (v : List TDot) : (devsL v).length ≤ v.length := by simpa [devsL] using (devs_gen v [] List.Pairwise.nil).2.2
/-- The vector that tells f of each of some devices. -/
def vecOf (f : Int → Int) (ks : List Int) : List TDot := ks.filterMap fun k => if 0 < f k then some ⟨k, f k⟩ else none
theorem mem_vecOf {f : Int → Int} {ks : List Int} {d : TDot} : d ∈ vecOf f ks ↔ d.dev ∈ ks ∧ 0 < d.n ∧ d.n = f d.dev := by
  unfold vecOf
  rw [List.mem_filterMap]
  constructor
  · rintro ⟨k, hk, h⟩
    split at h
    · rename_i h0; cases h; exact ⟨hk, h0, rfl⟩
    · cases h
  · rintro ⟨h1, h2, h3⟩
    refine ⟨d.dev, h1, ?_⟩
    rw [if_pos (by omega)]
    congr 1
    cases d
    simp at h3 ⊢
    exact h3.symm
theorem ord_vecOf {f : Int → Int} {ks : List Int} (h : ks.Pairwise (· < ·)) : Ord (vecOf f ks) := by
  unfold Ord vecOf
  rw [List.pairwise_filterMap]
  refine h.imp fun {a b} hab x hx y hy => ?_
  split at hx <;> cases hx
  split at hy <;> cases hy
  exact hab
def normV (v : List TDot) : List TDot := vecOf (ofV v) (devsL v)
def joinV (a b : List TDot) : List TDot := vecOf (fun k => max (ofV a k) (ofV b k)) (devsL (a ++ b))
def meetV (a b : List TDot) : List TDot := vecOf (fun k => min (ofV a k) (ofV b k)) (devsL (a ++ b))

/-! ### The program -/
def toldStep (m : List (Int × Int)) (d : TDot) : List (Int × Int) := if goodD d then AL.set m d.dev (max (AL.getZ m d.dev 0) d.n) else m
def toldM (v : List TDot) : List (Int × Int) := v.foldl toldStep []
theorem told_gen (v : List TDot) : ∀ m : List (Int × Int), (m.map (·.1)).Nodup → ((v.foldl toldStep m).map (·.1)).Nodup ∧ ((∀ k, 0 ≤ AL.getZ m k 0) → ∀ k, AL.getZ (v.foldl toldStep m) k 0 = max (AL.getZ m k 0) (ofV v k)) ∧ (v.foldl toldStep m).length ≤ m.length + v.length ∧ (∀ k, k ∈ (v.foldl toldStep m).map (·.1) → k ∈ m.map (·.1) ∨ 0 < ofV v k) := by
  induction v with
  | nil =>
    intro m h
    refine ⟨h, fun h0 k => ?_, by simp, fun k hk => .inl hk⟩
    have := h0 k
    simp only [List.foldl_nil, ofV]
    omega
  | cons d r ih =>
    intro m h
    simp only [List.foldl_cons]
    by_cases hg : goodD d = true
    · have hd := goodD_iff.1 hg
      have e : toldStep m d = AL.set m d.dev (max (AL.getZ m d.dev 0) d.n) := by simp [toldStep, hg]
      rw [e]
      obtain ⟨h1, h2, h3, h4⟩ := ih _ (AL.nodup_set h d.dev (max (AL.getZ m d.dev 0) d.n))
      refine ⟨h1, fun h0 k => ?_, ?_, fun k hk => ?_⟩
      · rw [h2 (fun q => by rw [AL.getZ_set]; have := h0 q; have := h0 d.dev; split <;> omega), AL.getZ_set]
        simp only [ofV]
        by_cases hk : d.dev = k
        · subst hk
          simp only [if_true, hg, and_self]
          omega
        · simp [hk]
      · have := AL.len_set m d.dev (max (AL.getZ m d.dev 0) d.n)
        simp only [List.length_cons]; omega
      · simp only [ofV]
        rcases h4 k hk with h5 | h5
        · rw [AL.keys_set] at h5
          split at h5
          · exact .inl h5
          · rcases List.mem_append.1 h5 with h5 | h5
            · exact .inl h5
            · right
              rw [List.mem_singleton.1 h5, if_pos ⟨rfl, hg⟩]
              omega
        · right; split <;> omega
    · have e : toldStep m d = m := by simp [toldStep, hg]
      rw [e]
      obtain ⟨h1, h2, h3, h4⟩ := ih m h
      have e2 : ∀ k, ofV (d :: r) k = ofV r k := fun k => by simp only [ofV]; rw [if_neg (fun hh => hg hh.2)]
      exact ⟨h1, fun h0 k => by rw [h2 h0, e2], by simp only [List.length_cons]; omega, fun k hk => by rw [e2]; exact h4 k hk⟩
theorem told_nodup (v : List TDot) : ((toldM v).map (·.1)).Nodup := (told_gen v [] (by simp)).1
theorem told_get (v : List TDot) (k : Int) : AL.getZ (toldM v) k 0 = ofV v k := by
  have := (told_gen v [] (by simp)).2.1 (fun _ => Int.le_refl _) k
  have h2 := ofV_range v k
  rw [toldM, this]
  show max 0 (ofV v k) = _
  omega
theorem told_len (v : List TDot) : (toldM v).length ≤ v.length := by simpa [toldM] using (told_gen v [] (by simp)).2.2.1
theorem told_mem {v : List TDot} {k n : Int} (h : (k, n) ∈ toldM v) : n = ofV v k ∧ 0 < n := by
  have h1 := AL.mem_get (told_nodup v) h
  have h2 : AL.getZ (toldM v) k 0 = n := by simp [AL.getZ, h1]
  rw [told_get] at h2
  have h3 := (told_gen v [] (by simp)).2.2.2 k (List.mem_map.2 ⟨_, h, rfl⟩)
  simp at h3
  omega
theorem vec_told_eq (v : List TDot) (h : v.length ≤ 1000000000000) : vec_told v = pure (toldM v) := by
  unfold vec_told
  have := loopL (body := vec_told_l0 v) v (fun i (m : List (Int × Int)) => ((i : Int), m)) toldStep (fun m => pure m) (fun _ _ => True) (fun i x m hx hi _ => by
    refine ⟨?_, trivial⟩
    unfold vec_told_l0
    have h1 : decide ((i : Int) < (v.length : Int)) = true := by simpa using hi
    simp only [h1, cond_true, idx_nat hx, pure_bind, dot_Good_eq, det_pure, wSucc (show i < 9223372036854775807 by omega)]
    cases hg : goodD x <;> simp [toldStep, hg, pure_bind]) (fun m _ => by unfold vec_told_l0; simp [pure_bind]) [] trivial
  rw [show ((0 : Int), ([] : List (Int × Int))) = (((0 : Nat) : Int), []) from rfl, this]
  rfl

theorem vec_Of_eq (v : List TDot) (dev : Int) (h : v.length ≤ 1000000000000) : vec_Of v dev = pure (ofV v dev) := by
  unfold vec_Of
  rw [vec_told_eq v h, det_pure, pure_bind, told_get]
theorem vec_Has_eq (v : List TDot) (d : TDot) (h : v.length ≤ 1000000000000) : vec_Has v d = pure (goodD d && decide (d.n ≤ ofV v d.dev)) := by
  unfold vec_Has
  simp only [dot_Good_eq, vec_Of_eq v _ h, det_pure, pure_bind, cond_pure_and]

/-- What a map of numbers is put in order to. -/
theorem vec_order_eq (m : List (Int × Int)) (f : Int → Int) (ks : List Int) (hl : m.length ≤ 1000000000000) (hn : (m.map (·.1)).Nodup) (hs : ks.Pairwise (· < ·)) (h1 : ∀ e ∈ m, 0 < e.2 → e.1 ∈ ks ∧ e.2 = f e.1) (h2 : ∀ k ∈ ks, 0 < f k → (k, f k) ∈ m) : vec_order m = pure (vecOf f ks) := by
  unfold vec_order
  have hall : ∀ Q : List TDot → Prop, (∀ l : List (Int × Int), l.Perm m → Q ((l.filter fun e => decide (0 < e.2)).map fun e => (⟨e.1, e.2⟩ : TDot))) → (loop (vec_order_l0 m) ([], ([] : List TDot))).wp Q := by
    intro Q hQ
    refine M.loopM (body := vec_order_l0 m) m (fun L (t : List TDot) => (L, t)) (fun t e => if 0 < e.2 then need ((t.length + 1) * 16 ≤ 140737488355328) (pure (t ++ [(⟨e.1, e.2⟩ : TDot)])) else pure t) (fun t => pure t)
      (fun l t => t = ((l.filter fun e => decide (0 < e.2)).map fun e => (⟨e.1, e.2⟩ : TDot))) Q (fun L t hL => ?_) (fun l t y ht hlen hy => ?_) (fun l t hp ht => ?_) [] rfl
    · unfold vec_order_l0
      show need _ ((nxt _ _).bind _) = need _ ((nxt _ _).bind _)
      refine congrArg (fun k => need _ ((nxt _ _).bind k)) (funext fun o => ?_)
      cases o with
      | none => rfl
      | some i =>
        refine congrArg (fun k => (idx m (Int.ofNat i)).bind k) (funext fun y => ?_)
        rw [cond_dec]
        split <;> rfl
    · have hle := List.length_filter_le (fun e : Int × Int => decide (0 < e.2)) l
      have htl : t.length ≤ l.length := by rw [ht]; simpa using hle
      refine ⟨if 0 < y.2 then t ++ [⟨y.1, y.2⟩] else t, ?_, ?_⟩
      · split
        · rw [need_true (by omega)]
        · rfl
      · subst ht
        rw [List.filter_append, List.map_append]
        split
        · rename_i h0; simp [h0]
        · rename_i h0; simp [h0]
    · subst ht; exact hQ l hp
  refine eq_pure (hall _ fun l hp => ?_)
  show (need _ _).wp _
  have hll := hp.length_eq
  have hle := List.length_filter_le (fun e : Int × Int => decide (0 < e.2)) l
  have hmem : ∀ d : TDot, d ∈ ((l.filter fun e => decide (0 < e.2)).map fun e => (⟨e.1, e.2⟩ : TDot)) ↔ d ∈ vecOf f ks := by
    intro d
    rw [mem_vecOf, List.mem_map]
    constructor
    · rintro ⟨e, he, rfl⟩
      rw [List.mem_filter, hp.mem_iff] at he
      have h0 : 0 < e.2 := by simpa using he.2
      obtain ⟨h3, h4⟩ := h1 e he.1 h0
      exact ⟨h3, h0, h4⟩
    · rintro ⟨h3, h4, h5⟩
      refine ⟨(d.dev, d.n), ?_, rfl⟩
      rw [List.mem_filter, hp.mem_iff]
      exact ⟨by rw [h5]; exact h2 d.dev h3 (by omega), by simpa using h4⟩
  have hnd : ((l.filter fun e => decide (0 < e.2)).map fun e => (⟨e.1, e.2⟩ : TDot)).Pairwise (fun x y => x.dev ≠ y.dev) := by
    rw [List.pairwise_map]
    have : l.Pairwise (fun x y => x.1 ≠ y.1) := by
      have := (hp.map (·.1)).nodup_iff.2 hn
      exact List.pairwise_map.1 this
    exact (this.filter _)
  refine ⟨by simp; omega, ⟨?_, fun l' ⟨hp', hs'⟩ => ?_⟩⟩
  · refine ⟨vecOf f ks, ?_, ?_⟩
    · refine (List.perm_ext_iff_of_nodup ?_ ?_).2 fun d => (hmem d).symm
      · exact (ord_vecOf hs).imp fun {a b} h e => by subst e; omega
      · exact hnd.imp fun {a b} h e => by subst e; exact h rfl
    · exact (ord_vecOf hs).imp fun {a b} h => by simp [ltDot]; omega
  · show l' = _
    refine ord_ext ?_ (ord_vecOf hs) fun d => by rw [hp'.mem_iff]; exact hmem d
    have hnd' := (hp'.pairwise_iff (fun {a b} h => Ne.symm h)).2 hnd
    exact (hs'.and hnd').imp fun {a b} ⟨h3, h4⟩ => by simp [ltDot] at h3; omega
theorem vec_Norm_eq (v : List TDot) (h : v.length ≤ 1000000000000) : vec_Norm v = pure (normV v) := by
  unfold vec_Norm
  have := told_len v
  rw [vec_told_eq v h, det_pure, pure_bind, vec_order_eq (toldM v) (ofV v) (devsL v) (by omega) (told_nodup v) (devs_sorted v)]
  · rw [det_pure]; rfl
  · intro e he h0
    obtain ⟨h1, h2⟩ := told_mem he
    exact ⟨mem_devs.2 (by omega), h1⟩
  · intro k hk h0
    have h1 : AL.getZ (toldM v) k 0 = ofV v k := told_get v k
    unfold AL.getZ at h1
    cases hg : AL.get (toldM v) k with
    | none => rw [hg] at h1; simp at h1; omega
    | some n => rw [hg] at h1; simp at h1; subst h1; exact AL.get_mem hg

/-! ### Two lists behind each other -/
theorem grow_eq (n : Int) (h0 : 0 ≤ n) (h : n ≤ 1000000000000) : slices_Grow_Vec_Dot_nil n = pure [] := by
  unfold slices_Grow_Vec_Dot_nil
  have e : IntKind.i64.wrap (n - IntKind.i64.wrap (0 - 0)) = n := by
    rw [wI64 (n := 0 - 0) (by omega) (by omega), wI64 (by omega) (by omega)]; omega
  simp only [e, cond_dec]
  rw [if_neg (by omega)]
  split
  · rw [need_true ⟨by omega, by omega⟩, need_true ⟨by omega, by omega, by omega⟩]
    simp [pure_bind]
  · simp [pure_bind]
theorem concat_eq (a b : List TDot) (h : a.length + b.length ≤ 1000000000000) : slices_Concat_Vec_Dot [a, b] = pure (a ++ b) := by
  unfold slices_Concat_Vec_Dot
  have e1 : slices_Concat_Vec_Dot_l0 [a, b] (0, 0) = pure (.next ((a.length : Int), 1)) := by
    unfold slices_Concat_Vec_Dot_l0
    have : IntKind.i64.wrap (0 + (a.length : Int)) = a.length := by rw [wI64 (by omega) (by omega)]; omega
    simp only [cond_dec, idx_eq (l := [a, b]) (i := 0) (y := a) (by omega) rfl, pure_bind, this]
    rw [if_pos (by simp), if_neg (by omega), wI64 (by omega) (by omega)]; rfl
  have e2 : slices_Concat_Vec_Dot_l0 [a, b] ((a.length : Int), 1) = pure (.next ((a.length : Int) + b.length, 2)) := by
    unfold slices_Concat_Vec_Dot_l0
    have : IntKind.i64.wrap ((a.length : Int) + b.length) = a.length + b.length := by rw [wI64 (by omega) (by omega)]
    simp only [cond_dec, idx_eq (l := [a, b]) (i := 1) (y := b) (by omega) rfl, pure_bind, this]
    rw [if_pos (by simp), if_neg (by omega), wI64 (by omega) (by omega)]; rfl
  have e3 : slices_Concat_Vec_Dot_l0 [a, b] ((a.length : Int) + b.length, 2) = pure (.done ((a.length : Int) + b.length)) := by
    unfold slices_Concat_Vec_Dot_l0
    simp
  have f1 : slices_Concat_Vec_Dot_l1 [a, b] (0, []) = pure (.next (1, a)) := by
    unfold slices_Concat_Vec_Dot_l1
    simp only [cond_dec, idx_eq (l := [a, b]) (i := 0) (y := a) (by omega) rfl, pure_bind]
    rw [if_pos (by simp), need_true (by simp; omega), wI64 (by omega) (by omega)]; rfl
  have f2 : slices_Concat_Vec_Dot_l1 [a, b] (1, a) = pure (.next (2, a ++ b)) := by
    unfold slices_Concat_Vec_Dot_l1
    simp only [cond_dec, idx_eq (l := [a, b]) (i := 1) (y := b) (by omega) rfl, pure_bind]
    rw [if_pos (by simp), need_true (by omega), wI64 (by omega) (by omega)]; rfl
  have f3 : slices_Concat_Vec_Dot_l1 [a, b] (2, a ++ b) = pure (.done (a ++ b)) := by
    unfold slices_Concat_Vec_Dot_l1
    simp
  rw [loop_next e1, loop_next e2, loop_done e3, pure_bind, grow_eq _ (by omega) (by omega), det_pure, pure_bind, loop_next f1, loop_next f2, loop_done f3, pure_bind]
theorem normV_app (a b : List TDot) : normV (a ++ b) = joinV a b := by
  unfold normV joinV
  congr 1
  funext k
  exact ofV_app a b k
theorem vec_Join_eq (a b : List TDot) (h : a.length + b.length ≤ 1000000000000) : vec_Join a b = pure (joinV a b) := by
  unfold vec_Join
  rw [concat_eq a b h, det_pure, pure_bind, vec_Norm_eq _ (by simp; omega), det_pure, pure_bind, normV_app]
theorem vec_Put_eq (v : List TDot) (d : TDot) (h : v.length ≤ 100000000000) : vec_Put v d = pure (joinV v [d]) := by
  unfold vec_Put
  rw [vec_Join_eq _ _ (by simp; omega), det_pure, pure_bind]

/-! ### What both have -/
def updM (h : Int × Int → Int) (m : List (Int × Int)) (L : List Nat) : List (Int × Int) := m.zipIdx.map fun y => if y.2 ∈ L then (y.1.1, h y.1) else y.1
theorem updM_get {h : Int × Int → Int} {m : List (Int × Int)} {L : List Nat} {i : Nat} : (updM h m L)[i]? = (m[i]?).map fun e => if i ∈ L then (e.1, h e) else e := by
  unfold updM
  rw [List.getElem?_map, List.getElem?_zipIdx]
  cases m[i]? <;> simp
theorem updM_len {h : Int × Int → Int} {m : List (Int × Int)} {L : List Nat} : (updM h m L).length = m.length := by simp [updM]
theorem set_at {m : List (Int × Int)} (hn : (m.map (·.1)).Nodup) {i : Nat} {e : Int × Int} (hi : m[i]? = some e) (v : Int) : AL.set m e.1 v = m.set i (e.1, v) := by
  induction m generalizing i with
  | nil => simp at hi
  | cons x r ih =>
    obtain ⟨a, u⟩ := x
    simp only [List.map_cons, List.nodup_cons] at hn
    cases i with
    | zero => simp at hi; subst hi; simp [AL.set]
    | succ i =>
      simp only [List.getElem?_cons_succ] at hi
      have : a ≠ e.1 := fun he => hn.1 (he ▸ List.mem_map.2 ⟨e, List.mem_of_getElem? hi, rfl⟩)
      simp only [AL.set, this, if_false, List.set_cons_succ]
      rw [ih hn.2 hi]
theorem updM_keys {h : Int × Int → Int} {m : List (Int × Int)} {L : List Nat} : (updM h m L).map (·.1) = m.map (·.1) := by
  apply List.ext_getElem?
  intro i
  rw [List.getElem?_map, updM_get, List.getElem?_map]
  cases m[i]? with
  | none => rfl
  | some e => simp only [Option.map_some]; split <;> rfl
theorem updM_snoc {h : Int × Int → Int} {m : List (Int × Int)} (hn : (m.map (·.1)).Nodup) {L : List Nat} {i : Nat} {e : Int × Int} (hi : m[i]? = some e) (hL : i ∉ L) : AL.set (updM h m L) e.1 (h e) = updM h m (L ++ [i]) := by
  have h1 : (updM h m L)[i]? = some e := by rw [updM_get, hi]; simp [hL]
  rw [set_at (by rw [updM_keys]; exact hn) h1]
  apply List.ext_getElem?
  intro j
  rw [List.getElem?_set, updM_len, updM_get, updM_get]
  by_cases hj : i = j
  · subst hj
    have := (List.getElem?_eq_some_iff.1 hi).1
    rw [if_pos rfl, if_pos this, hi]
    simp
  · rw [if_neg hj]
    have : j ∈ L ++ [i] ↔ j ∈ L := by simp; exact fun e => absurd e.symm hj
    simp only [this]
theorem updM_all {h : Int × Int → Int} {m : List (Int × Int)} {L : List Nat} (hL : ∀ i, i < m.length → i ∈ L) : updM h m L = m.map fun e => (e.1, h e) := by
  apply List.ext_getElem?
  intro i
  rw [updM_get, List.getElem?_map]
  cases hm : m[i]? with
  | none => rfl
  | some e => simp [hL i (List.getElem?_eq_some_iff.1 hm).1]
theorem meet_loop (m y : List (Int × Int)) (hn : (m.map (·.1)).Nodup) : loop (vec_Meet_l0 y) ([], m) = pure (m.map fun e => (e.1, min e.2 (AL.getZ y e.1 0))) := by
  refine eq_pure ?_
  have h0 : m = updM (fun e => min e.2 (AL.getZ y e.1 0)) m [] := by
    apply List.ext_getElem?
    intro i
    rw [updM_get]
    cases m[i]? <;> simp
  have := loopN (body := vec_Meet_l0 y) m.length (fun L (_ : Unit) => (L, updM (fun e => min e.2 (AL.getZ y e.1 0)) m L)) (fun _ _ => True) (· = m.map fun e => (e.1, min e.2 (AL.getZ y e.1 0)))
    (fun L _ _ hnd hlt => ⟨_, by unfold vec_Meet_l0; dsimp only; rw [updM_len], fun hall => ?_, fun i hi hni => ⟨(), ?_, trivial⟩⟩) () trivial
  · rwa [← h0] at this
  · exact updM_all hall
  · have h1 := List.getElem?_eq_getElem hi
    have h2 : (updM (fun e => min e.2 (AL.getZ y e.1 0)) m L)[i]? = some m[i] := by rw [updM_get, h1]; simp [hni]
    show (idx _ (Int.ofNat i)).bind _ = _
    rw [show Int.ofNat i = (i : Int) from rfl, idx_nat h2, pure_bind, need_true]
    · rw [updM_snoc hn h1 hni]
    · have : m[i].1 ∈ (updM (fun e => min e.2 (AL.getZ y e.1 0)) m L).map (·.1) := by rw [updM_keys]; exact List.mem_map.2 ⟨m[i], List.getElem_mem hi, rfl⟩
      unfold AL.has
      cases hg : AL.get (updM (fun e => min e.2 (AL.getZ y e.1 0)) m L) m[i].1 with
      | none => exact absurd this (AL.get_none.1 hg)
      | some v => rfl
theorem told_at {v : List TDot} {k : Int} (h : 0 < ofV v k) : (k, ofV v k) ∈ toldM v := by
  have h1 : AL.getZ (toldM v) k 0 = ofV v k := told_get v k
  unfold AL.getZ at h1
  cases hg : AL.get (toldM v) k with
  | none => rw [hg] at h1; simp at h1; omega
  | some n => rw [hg] at h1; simp at h1; subst h1; exact AL.get_mem hg
theorem vec_Meet_eq (a b : List TDot) (ha : a.length ≤ 1000000000000) (hb : b.length ≤ 1000000000000) : vec_Meet a b = pure (meetV a b) := by
  unfold vec_Meet
  have hl := told_len a
  rw [vec_told_eq a ha, det_pure, pure_bind, vec_told_eq b hb, det_pure, pure_bind, meet_loop _ _ (told_nodup a), pure_bind,
    vec_order_eq _ (fun k => min (ofV a k) (ofV b k)) (devsL (a ++ b)) (by simp; omega) (by rw [List.map_map]; exact told_nodup a) (devs_sorted _), det_pure]
  · rfl
  · intro e he h0
    rw [List.mem_map] at he
    obtain ⟨x, hx, rfl⟩ := he
    simp only at h0 ⊢
    obtain ⟨h1, h2⟩ := told_mem hx
    rw [told_get]
    exact ⟨mem_devs.2 (by rw [ofV_app]; omega), by rw [← h1]⟩
  · intro k hk h0
    rw [List.mem_map]
    refine ⟨(k, ofV a k), told_at (by omega), ?_⟩
    simp only [told_get]
end Go.Ep.M
