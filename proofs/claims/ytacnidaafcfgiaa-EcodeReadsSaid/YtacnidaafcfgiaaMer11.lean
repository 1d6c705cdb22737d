/- Texts that the walks and laws lean on, side by side. -/
import Derived.Test.YtacnidaafcfgiaaMer9
import Derived.Test.YtacnidaafcfgiaaMer10
set_option linter.unusedVariables false
set_option linter.unusedSimpArgs false
namespace Go.Ep.M.D
open Go

theorem lt_iff {a b : TDot} : ltDot a b = true ↔ a.dev < b.dev ∨ (a.dev = b.dev ∧ a.n < b.n) := by simp [ltDot]
theorem lt_irr (a : TDot) : ltDot a a = false := by
  cases h : ltDot a a with
  | false => rfl
  | true => rw [lt_iff] at h; omega
theorem lt_trans {a b c : TDot} (h1 : ltDot a b = true) (h2 : ltDot b c = true) : ltDot a c = true := by rw [lt_iff] at *; omega
theorem lt_asym {a b : TDot} (h : ltDot a b = true) : ltDot b a = false := by
  cases h2 : ltDot b a with
  | false => rfl
  | true => rw [lt_iff] at h h2; omega
theorem lt_tri {a b : TDot} (h1 : ltDot a b = false) (h2 : ltDot b a = false) : a = b := by
  have h3 : ¬ (ltDot a b = true) := by simp [h1]
  have h4 : ¬ (ltDot b a = true) := by simp [h2]
  rw [lt_iff] at h3 h4
  cases a; cases b
  simp only [TDot.mk.injEq] at *
  omega
abbrev Srt (l : List TDot) : Prop := l.Pairwise fun x y => ltDot x y = true
theorem srt_ext : ∀ {l l' : List TDot}, Srt l → Srt l' → (∀ d, d ∈ l ↔ d ∈ l') → l = l'
  | [], [], _, _, _ => rfl
  | [], y :: r, _, _, h => by have := (h y).2 (by simp); simp at this
  | x :: r, [], _, _, h => by have := (h x).1 (by simp); simp at this
  | x :: r, y :: t, h1, h2, h => by
    have hx := (h x).1 (by simp)
    have hy := (h y).2 (by simp)
    have e : x = y := by
      rcases List.mem_cons.1 hx with e | hx
      · exact e
      · rcases List.mem_cons.1 hy with e | hy
        · exact e.symm
        · have a1 := (List.pairwise_cons.1 h2).1 x hx
          have a2 := (List.pairwise_cons.1 h1).1 y hy
          rw [lt_asym a1] at a2; cases a2
    subst e
    congr 1
    refine srt_ext (List.pairwise_cons.1 h1).2 (List.pairwise_cons.1 h2).2 fun d => ?_
    have h3 := h d
    simp only [List.mem_cons] at h3
    constructor
    · intro hd
      rcases h3.1 (.inr hd) with e | h4
      · have := (List.pairwise_cons.1 h1).1 d hd
        rw [e, lt_irr] at this; cases this
      · exact h4
    · intro hd
      rcases h3.2 (.inr hd) with e | h4
      · have := (List.pairwise_cons.1 h2).1 d hd
        rw [e, lt_irr] at this; cases this
      · exact h4

def insD (s : List TDot) (d : TDot) : List TDot := (s.filter fun x => ltDot x d) ++ [d] ++ (s.filter fun x => ltDot d x)
theorem ins_mem {s : List TDot} {d x : TDot} : x ∈ insD s d ↔ x = d ∨ x ∈ s := by
  simp only [insD, List.mem_append, List.mem_filter, List.mem_singleton]
  constructor
  · rintro ((h | h) | h)
    · exact .inr h.1
    · exact .inl h
    · exact .inr h.1
  · rintro (h | h)
    · exact .inl (.inr h)
    · cases h1 : ltDot x d with
      | true => exact .inl (.inl ⟨h, rfl⟩)
      | false =>
        cases h2 : ltDot d x with
        | true => exact .inr ⟨h, rfl⟩
        | false => exact .inl (.inr (lt_tri h1 h2))
theorem ins_srt {s : List TDot} (h : Srt s) (d : TDot) : Srt (insD s d) := by
  unfold Srt insD
  rw [List.pairwise_append, List.pairwise_append]
  refine ⟨⟨h.filter _, by simp, fun a ha b hb => ?_⟩, h.filter _, fun a ha b hb => ?_⟩
  · rw [List.mem_singleton.1 hb]; exact (List.mem_filter.1 ha).2
  · have hb := (List.mem_filter.1 hb).2
    rcases List.mem_append.1 ha with ha | ha
    · exact lt_trans (List.mem_filter.1 ha).2 hb
    · rw [List.mem_singleton.1 ha]; exact hb
theorem ins_len (s : List TDot) (d : TDot) : (insD s d).length ≤ s.length + 1 := by
  unfold insD
  have h : ∀ l : List TDot, (l.filter fun x => ltDot x d).length + (l.filter fun x => ltDot d x).length ≤ l.length := by
    intro l
    induction l with
    | nil => simp
    | cons x r ih =>
      cases h1 : ltDot x d with
      | true => simp [h1, lt_asym h1]; omega
      | false =>
        cases h2 : ltDot d x with
        | true => simp [h1, h2]; omega
        | false => simp [h1, h2]; omega
  have := h s
  simp; omega
def sortD (l : List TDot) : List TDot := l.foldl insD []
theorem sort_gen : ∀ (l s : List TDot), Srt s → Srt (l.foldl insD s) ∧ (∀ d, d ∈ l.foldl insD s ↔ d ∈ s ∨ d ∈ l) ∧ (l.foldl insD s).length ≤ s.length + l.length
  | [], s, h => ⟨h, by simp, by simp⟩
  | x :: r, s, h => by
    obtain ⟨h1, h2, h3⟩ := sort_gen r (insD s x) (ins_srt h x)
    refine ⟨h1, fun d => ?_, ?_⟩
    · rw [List.foldl_cons, h2 d, ins_mem, List.mem_cons]
      constructor
      · rintro ((h | h) | h)
        · exact .inr (.inl h)
        · exact .inl h
        · exact .inr (.inr h)
      · rintro (h | h | h)
        · exact .inl (.inr h)
        · exact .inl (.inl h)
        · exact .inr h
    · have := ins_len s x
      rw [List.foldl_cons, List.length_cons]; omega
theorem sort_srt (l : List TDot) : Srt (sortD l) := (sort_gen l [] List.Pairwise.nil).1
theorem sort_mem {l : List TDot} {d : TDot} : d ∈ sortD l ↔ d ∈ l := by simpa [sortD] using (sort_gen l [] List.Pairwise.nil).2.1 d
theorem sort_len (l : List TDot) : (sortD l).length ≤ l.length := by simpa [sortD] using (sort_gen l [] List.Pairwise.nil).2.2
theorem sort_self {l : List TDot} (h : Srt l) : sortD l = l := srt_ext (sort_srt l) h fun _ => sort_mem
theorem rPut_eq (s : List TDot) (d : TDot) (h : s.length ≤ 1000000000000) : r07_Put s d = pure (insD s d) := V.r07_Put_eq s d h

def ddS (out : List TDot) (x : TDot) : List TDot := if out.getLast? = some x then out else out ++ [x]
def dd (l : List TDot) : List TDot := l.foldl ddS []
theorem dd_snoc (l : List TDot) (x : TDot) : dd (l ++ [x]) = ddS (dd l) x := by simp [dd]
theorem dd_last (l : List TDot) : (dd l).getLast? = l.getLast? := by
  rcases R.snoc_cases l with rfl | ⟨r, y, rfl⟩
  · rfl
  · rw [dd_snoc]
    unfold ddS
    by_cases c : (dd r).getLast? = some y
    · rw [if_pos c, c]; simp
    · rw [if_neg c]; simp
theorem dd_mem {l : List TDot} {d : TDot} : d ∈ dd l ↔ d ∈ l := by
  have : ∀ (l s : List TDot), d ∈ l.foldl ddS s ↔ d ∈ s ∨ d ∈ l := by
    intro l
    induction l with
    | nil => intro s; simp
    | cons x r ih =>
      intro s
      rw [List.foldl_cons, ih]
      have h2 : d ∈ ddS s x ↔ d ∈ s ∨ d = x := by
        unfold ddS
        split
        · rename_i h
          exact ⟨.inl, fun h3 => h3.elim id fun e => by rw [e]; exact List.mem_of_getLast? h⟩
        · simp
      rw [h2, List.mem_cons]
      exact or_assoc
  simpa [dd] using this l []
theorem dd_srt {l : List TDot} (h : l.Pairwise fun x y => ltDot y x = false) : Srt (dd l) := by
  have : ∀ (n : Nat) (l : List TDot), l.length = n → (l.Pairwise fun x y => ltDot y x = false) → Srt (dd l) := by
    intro n
    induction n with
    | zero => intro l hl _; have := List.eq_nil_of_length_eq_zero hl; subst this; exact List.Pairwise.nil
    | succ n ih =>
      intro l hl h
      rcases R.snoc_cases l with rfl | ⟨r, y, rfl⟩
      · simp at hl
      · rw [List.pairwise_append] at h
        have hr := ih r (by simpa using hl) h.1
        rw [dd_snoc]
        unfold ddS
        split
        · exact hr
        · rename_i hne
          unfold Srt
          rw [List.pairwise_append]
          refine ⟨hr, by simp, fun a ha b hb => ?_⟩
          rw [List.mem_singleton.1 hb]
          have ha' := dd_mem.1 ha
          have h1 := h.2.2 a ha' y (by simp)
          cases h2 : ltDot a y with
          | true => rfl
          | false =>
            exfalso
            have e := lt_tri h2 h1
            subst e
            rw [dd_last] at hne
            rcases R.snoc_cases r with rfl | ⟨q, z, rfl⟩
            · simp at ha'
            · have hz : ltDot a z = false := h.2.2 z (by simp) a (by simp)
              rcases List.mem_append.1 ha' with h5 | h5
              · have h6 : ltDot z a = false := by
                  have := (List.pairwise_append.1 h.1).2.2 a h5 z (by simp); exact this
                have := lt_tri hz h6
                subst this
                simp at hne
              · rw [List.mem_singleton.1 h5] at hne; simp at hne
  exact this l.length l rfl h

theorem Clone_eq (l : List TDot) (h : l.length ≤ 1000000000000) : slices_Clone_sl_Dot_Dot l = pure l := by
  unfold slices_Clone_sl_Dot_Dot
  refine eq_pure ⟨⟨false, fun h => by cases h⟩, fun b hb => ?_⟩
  cases b with
  | true => show ([] : List TDot) = l; exact (hb rfl).symm
  | false =>
    show _ ∧ ([] ++ l = l)
    exact ⟨by simp; omega, List.nil_append l⟩
theorem dotEq (x y : TDot) : (decide (x.dev = y.dev) && decide (x.n = y.n)) = decide (x = y) := by
  cases x; cases y; simp [Bool.decide_and]
theorem take_snoc {l : List TDot} {m : Nat} {x : TDot} (h : l[m]? = some x) : l.take (m + 1) = l.take m ++ [x] := by
  rw [List.take_add_one, h]; rfl
theorem last_take {l : List TDot} {m : Nat} {x : TDot} (h : l[m]? = some x) : (l.take (m + 1)).getLast? = some x := by rw [take_snoc h]; simp
theorem inner_loop (s : List TDot) (k : Nat) (hk : k < s.length) (hl : s.length ≤ 1000000000000) : ∀ (d k2 kk : Nat) (v : List TDot), k + k2 + d = s.length → 1 ≤ k2 → v.length = s.length → kk + 1 ≤ k + k2 → v.take kk = dd (s.take (k + k2)) → v.drop (k + k2 - 1) = s.drop (k + k2 - 1) →
    ∃ (kk' : Nat) (v' : List TDot), loop (slices_Compact_sl_Dot_Dot_o_l0 s (k : Int)) ((kk : Int), (k2 : Int), v) = pure ((kk' : Int), v') ∧ v'.length = s.length ∧ kk' ≤ s.length ∧ v'.take kk' = dd s
  | 0, k2, kk, v, hd, h1, hv, hkk, ht, _ => by
    refine ⟨kk, v, loop_done ?_, hv, by omega, by rw [ht, show k + k2 = s.length by omega, List.take_length]⟩
    unfold slices_Compact_sl_Dot_Dot_o_l0
    have : decide ((k2 : Int) < (((s.length - (k : Int).toNat : Nat)) : Int)) = false := by simp; omega
    simp only [this, cond_false]
  | d + 1, k2, kk, v, hd, h1, hv, hkk, ht, hdr => by
    have hvg : ∀ j, k + k2 - 1 ≤ j → v[j]? = s[j]? := fun j hj => by
      have := congrArg (fun l => l[j - (k + k2 - 1)]?) hdr
      simp only [List.getElem?_drop] at this
      rw [show k + k2 - 1 + (j - (k + k2 - 1)) = j by omega] at this; exact this
    obtain ⟨x, hx⟩ : ∃ x, s[k + k2]? = some x := ⟨_, List.getElem?_eq_getElem (by omega)⟩
    obtain ⟨y, hy⟩ : ∃ y, s[k + k2 - 1]? = some y := ⟨_, List.getElem?_eq_getElem (by omega)⟩
    have hlast : (dd (s.take (k + k2))).getLast? = some y := by
      rw [dd_last]
      have := last_take hy
      rwa [show k + k2 - 1 + 1 = k + k2 by omega] at this
    have hdd : dd (s.take (k + k2 + 1)) = if y = x then dd (s.take (k + k2)) else dd (s.take (k + k2)) ++ [x] := by
      rw [take_snoc hx, dd_snoc]
      unfold ddS
      rw [hlast]
      by_cases c : y = x
      · rw [if_pos c, if_pos (by rw [c])]
      · rw [if_neg c, if_neg (by intro e; exact c (Option.some.inj e))]
    have hb : slices_Compact_sl_Dot_Dot_o_l0 s (k : Int) ((kk : Int), (k2 : Int), v) = pure (.next (if y = x then ((kk : Int), ((k2 + 1 : Nat) : Int), v) else (((kk + 1 : Nat) : Int), ((k2 + 1 : Nat) : Int), v.set kk x))) := by
      unfold slices_Compact_sl_Dot_Dot_o_l0
      have hc : decide ((k2 : Int) < (((s.length - (k : Int).toNat : Nat)) : Int)) = true := by simp; omega
      have e1 : IntKind.i64.wrap ((k2 : Int) - 1) = ((k2 - 1 : Nat) : Int) := by rw [wI64 (by omega) (by omega)]; omega
      have i1 : idx v ((((k : Int).toNat + (k2 : Int).toNat : Nat)) : Int) = pure x := idx_nat (by rw [Int.toNat_natCast, Int.toNat_natCast, hvg _ (by omega)]; exact hx)
      have i2 : idx v ((((k : Int).toNat + (((k2 - 1 : Nat) : Int)).toNat : Nat)) : Int) = pure y := idx_nat (by rw [Int.toNat_natCast, Int.toNat_natCast, hvg _ (by omega), show k + (k2 - 1) = k + k2 - 1 by omega]; exact hy)
      obtain ⟨z, hz⟩ : ∃ z, v[kk]? = some z := ⟨_, List.getElem?_eq_getElem (by omega)⟩
      have i3 : idx v (kk : Int) = pure z := idx_nat hz
      simp only [hc, cond_true, e1]
      rw [need_true (by simp; omega), i1, pure_bind, need_true (by simp; omega), i2, pure_bind]
      simp only [dotEq]
      by_cases c : y = x
      · have c1 : decide (x = y) = true := decide_eq_true c.symm
        simp only [c1, Bool.not_true, cond_false, pure_bind, wSucc (show k2 < 9223372036854775807 by omega), if_pos c]
      · have c1 : decide (x = y) = false := decide_eq_false (fun e => c e.symm)
        simp only [c1, Bool.not_false, cond_true, if_neg c]
        rw [need_true (by simp; omega), i3]
        simp only [pure_bind, wSucc (show k2 < 9223372036854775807 by omega), wSucc (show kk < 9223372036854775807 by omega), Int.toNat_natCast]
    by_cases c : y = x
    · rw [if_pos c] at hb hdd
      rw [loop_next hb]
      refine inner_loop s k hk hl d (k2 + 1) kk v (by omega) (by omega) hv (by omega) (by rw [ht, ← hdd]; rfl) ?_
      have := congrArg (List.drop 1) hdr
      rw [List.drop_drop, List.drop_drop, show k + k2 - 1 + 1 = k + (k2 + 1) - 1 by omega] at this
      exact this
    · rw [if_neg c] at hb hdd
      rw [loop_next hb]
      refine inner_loop s k hk hl d (k2 + 1) (kk + 1) (v.set kk x) (by omega) (by omega) (by simpa using hv) (by omega) ?_ ?_
      · have h5 : (v.set kk x)[kk]? = some x := by rw [List.getElem?_set]; simp; omega
        rw [take_snoc h5, List.take_set, List.set_eq_of_length_le (by rw [List.length_take]; omega), ht, ← hdd]; rfl
      · rw [List.drop_set, if_pos (by omega)]
        have := congrArg (List.drop 1) hdr
        rw [List.drop_drop, List.drop_drop, show k + k2 - 1 + 1 = k + (k2 + 1) - 1 by omega] at this
        exact this
theorem Compact_eq (s : List TDot) (hl : s.length ≤ 1000000000000) : slices_Compact_sl_Dot_Dot_o s = pure (dd s) := by
  unfold slices_Compact_sl_Dot_Dot_o
  by_cases h2 : s.length < 2
  · have : decide ((s.length : Int) < 2) = true := by simp; omega
    rw [this, cond_true]
    match s, h2 with
    | [], _ => rfl
    | [x], _ => rfl
  · have : decide ((s.length : Int) < 2) = false := by simp; omega
    rw [this, cond_false]
    have key : ∀ d k, k + d = s.length → 1 ≤ k → dd (s.take k) = s.take k → (loop (slices_Compact_sl_Dot_Dot_o_l1 s) (k : Int)).bind (exk fun _ => pure s) = pure (dd s) := by
      intro d
      induction d with
      | zero =>
        intro k hk h1 hd
        rw [loop_done (r := .brk ()) (by
          unfold slices_Compact_sl_Dot_Dot_o_l1
          have : decide ((k : Int) < (s.length : Int)) = false := by simp; omega
          simp only [this, cond_false])]
        rw [show k = s.length by omega, List.take_length] at hd
        show pure s = pure (dd s)
        rw [hd]
      | succ d ih =>
        intro k hk h1 hd
        obtain ⟨x, hx⟩ : ∃ x, s[k]? = some x := ⟨_, List.getElem?_eq_getElem (by omega)⟩
        obtain ⟨y, hy⟩ : ∃ y, s[k - 1]? = some y := ⟨_, List.getElem?_eq_getElem (by omega)⟩
        have hlast : (dd (s.take k)).getLast? = some y := by
          rw [dd_last]
          have := last_take hy
          rwa [show k - 1 + 1 = k by omega] at this
        have hc : decide ((k : Int) < (s.length : Int)) = true := by simp; omega
        have i1 : idx s (k : Int) = pure x := idx_nat hx
        have i2 : idx s (IntKind.i64.wrap ((k : Int) - 1)) = pure y := by
          rw [wI64 (by omega) (by omega)]
          exact idx_eq (by omega) (by rw [show ((k : Int) - 1).toNat = k - 1 by omega]; exact hy)
        by_cases c : x = y
        · subst c
          obtain ⟨kk, v, h5, h6, h7, h8⟩ := inner_loop s k (by omega) hl d 1 k s (by omega) (by omega) rfl (by omega) (by
            rw [take_snoc hx, dd_snoc, ddS, if_pos hlast, hd]) (by rw [show k + 1 - 1 = k by omega])
          rw [loop_done (r := .ret (dd s)) (by
            unfold slices_Compact_sl_Dot_Dot_o_l1
            simp only [hc, cond_true, i1, i2, pure_bind, dotEq, decide_true]
            rw [need_true (by omega), show (1 : Int) = ((1 : Nat) : Int) from rfl, h5, pure_bind]
            simp only []
            rw [need_true (by omega), need_true (by simp; omega), need_true (by
              simp only [List.length_append, List.length_take, List.length_replicate, List.length_drop, Int.toNat_natCast]; omega), pure_bind, exk_ret]
            congr 3
            rw [Int.toNat_natCast, List.append_assoc, List.take_append_of_le_length (by rw [List.length_take]; omega), List.take_take, Nat.min_self, h8])]
          rfl
        · have c1 : decide (x = y) = false := decide_eq_false c
          rw [loop_next (s' := ((k + 1 : Nat) : Int)) (by
            unfold slices_Compact_sl_Dot_Dot_o_l1
            simp only [hc, cond_true, i1, i2, pure_bind, dotEq, c1, cond_false, exk_brk, wSucc (show k < 9223372036854775807 by omega)])]
          refine ih (k + 1) (by omega) (by omega) ?_
          rw [take_snoc hx, dd_snoc, ddS, if_neg (by rw [hlast]; intro e; exact c (Option.some.inj e).symm), hd]
    have := key (s.length - 1) 1 (by omega) (by omega) (by
      obtain ⟨x, r, rfl⟩ : ∃ x r, s = x :: r := by
        cases s with
        | nil => simp at h2
        | cons x r => exact ⟨x, r, rfl⟩
      rfl)
    exact this
theorem srt_wp {l : List TDot} {Q : List TDot → Prop} (h : ∀ s, s.Perm l → (s.Pairwise fun x y => ltDot y x = false) → Q s) : (srt ltDot l).wp Q := by
  refine ⟨⟨l.mergeSort (fun x y => !ltDot y x), List.mergeSort_perm _ _, ?_⟩, fun s ⟨h1, h2⟩ => h s h1 h2⟩
  refine (List.pairwise_mergeSort (fun a b c h1 h2 => ?_) (fun a b => ?_) l).imp fun {x y} h => by simpa using h
  · simp only [Bool.not_eq_true'] at h1 h2 ⊢
    cases h3 : ltDot c a with
    | false => rfl
    | true =>
      rw [lt_iff] at h3
      have h4 : ¬ (ltDot b a = true) := by simp [h1]
      have h5 : ¬ (ltDot c b = true) := by simp [h2]
      rw [lt_iff] at h4 h5
      omega
  · cases h1 : ltDot b a with
    | false => rfl
    | true => rw [lt_asym h1]; rfl
theorem Sort_eq (l : List TDot) (h : l.length ≤ 1000000000000) : dot_Sort l = pure (sortD l) := by
  unfold dot_Sort
  rw [Clone_eq l h, det_pure, pure_bind, need_true (by omega)]
  refine eq_pure (srt_wp fun s hs hp => ?_)
  show (bind (det (slices_Compact_sl_Dot_Dot_o s)) fun y8 => pure y8).wp _
  rw [Compact_eq s (by rw [hs.length_eq]; exact h), det_pure, pure_bind]
  exact srt_ext (dd_srt hp) (sort_srt l) fun d => by rw [dd_mem, sort_mem]; exact hs.mem_iff

theorem cmp16_eq (x y : Int) : cmp_Compare_uint16 x y = pure (R.cmp3 x y) := by
  unfold cmp_Compare_uint16 cmp_isNaN_uint16 R.cmp3
  simp only [decide_true, Bool.not_true, det_pure, pure_bind, cond_false, cond_dec]
  split
  · rfl
  · split <;> rfl
theorem Cmp_eq (a b : TDot) : dot_Cmp a b = pure (V.cmpD a b) := by
  unfold dot_Cmp
  rw [cmp16_eq, det_pure, pure_bind, R.cmp3_eq, det_pure, pure_bind]
  unfold V.cmpD R.cmp3
  cases a with | mk d n => cases b with | mk e m =>
  simp only [TDot.mk.injEq, ltDot]
  by_cases h1 : d < e
  · have : ¬ d = e := by omega
    simp [h1, this]
  · by_cases h2 : e < d
    · have : ¬ d = e := by omega
      simp [h1, h2, this]
    · have h3 : d = e := by omega
      subst h3
      by_cases h4 : n < m
      · have : ¬ n = m := by omega
        simp [h4, this]
      · by_cases h5 : m < n
        · have : ¬ n = m := by omega
          simp [h4, h5, this]
        · have : n = m := by omega
          simp [this]


/-- A loop that puts bytes behind, for each element some. -/
theorem loopApp {σ ρ ε : Type} {body : σ → M (Step σ ρ)} (l : List ε) (f : ε → List Int) (row : List Int) (N : Nat) (mk : Nat → List Int → σ) (g : List Int → M ρ) (hN : row.length + (l.flatMap f).length ≤ N)
    (h1 : ∀ (i : Nat) (x : ε) (out : List Int), l[i]? = some x → i < l.length → out.length + (f x).length ≤ N → body (mk i out) = pure (.next (mk (i + 1) (out ++ f x))))
    (h2 : ∀ out, body (mk l.length out) = (g out).bind fun r => pure (.done r)) : loop body (mk 0 row) = g (row ++ l.flatMap f) := by
  have key : ∀ (k i : Nat) (out : List Int), i + k = l.length → out.length + ((l.drop i).flatMap f).length ≤ N → loop body (mk i out) = g (out ++ (l.drop i).flatMap f) := by
    intro k
    induction k with
    | zero =>
      intro i out hi _
      have : i = l.length := by omega
      subst this
      rw [loop_eq, h2, List.drop_length]
      simp only [List.flatMap_nil, List.append_nil]
      rfl
    | succ k ih =>
      intro i out hi hl
      have hlt : i < l.length := by omega
      rw [List.drop_eq_getElem_cons hlt, List.flatMap_cons, List.length_append] at hl
      rw [loop_next (h1 i l[i] out (List.getElem?_eq_getElem hlt) hlt (by omega)), ih (i + 1) _ (by omega) (by rw [List.length_append]; omega), List.drop_eq_getElem_cons hlt, List.flatMap_cons, List.append_assoc]
  simpa using key l.length 0 row (by omega) (by simpa using hN)
theorem flat_len {ε : Type} (l : List ε) (f : ε → List Int) (k : Nat) (h : ∀ x ∈ l, (f x).length ≤ k) : (l.flatMap f).length ≤ k * l.length := by
  induction l with
  | nil => simp
  | cons x r ih =>
    have h1 := h x (by simp)
    have h2 := ih fun y hy => h y (by simp [hy])
    rw [List.flatMap_cons, List.length_append, List.length_cons, Nat.mul_add]; omega

structure OkD (d : TDot) : Prop where
  d0 : 0 ≤ d.dev
  d1 : d.dev ≤ 65535
  n0 : 0 ≤ d.n
  n1 : d.n ≤ 18446744073709551615
def encD (d : TDot) : List Int := N.encI d.dev ++ N.encI d.n
theorem encD_len {d : TDot} (h : OkD d) : (encD d).length ≤ 18 := by
  have h1 := N.encI_len (v := d.dev) (by have := h.d1; omega)
  have h2 := N.encI_len (v := d.n) h.n1
  rw [encD, List.length_append]; omega
theorem PutDot_eq {d : TDot} (h : OkD d) (row : List Int) (hr : row.length ≤ 1000000000000) : dcode_PutDot_o d row = pure (row ++ encD d) := by
  have h1 := N.encI_len (v := d.dev) (by have := h.d1; omega)
  unfold dcode_PutDot_o
  rw [wU64 h.d0 (by have := h.d1; omega), N.WNum_eq row h.d0 (by have := h.d1; omega) (by omega), det_pure, pure_bind, N.WNum_eq _ h.n0 h.n1 (by rw [List.length_append]; omega), det_pure, pure_bind, encD, List.append_assoc]
theorem rPutDot_eq {d : TDot} (h : OkD d) (row : List Int) (hr : row.length ≤ 1000000000000) : r15_PutDot row d = pure (row ++ encD d) := by
  have h1 := N.encI_len (v := d.dev) (by have := h.d1; omega)
  unfold r15_PutDot
  rw [wU64 h.d0 (by have := h.d1; omega), N.rAppend_eq row h.d0 (by have := h.d1; omega) (by omega), det_pure, pure_bind, N.rAppend_eq _ h.n0 h.n1 (by rw [List.length_append]; omega), det_pure, pure_bind, encD, List.append_assoc]
def goods (l : List TDot) : List TDot := l.filter V.goodD
def encDs (l : List TDot) : List Int := N.encI (sortD (goods l)).length ++ (sortD (goods l)).flatMap encD
theorem good_loop (l : List TDot) (hl : l.length ≤ 1000000000000) : loop (dcode_PutDots_o_l0 l) (0, []) = pure (goods l) := by
  have := loopL (body := dcode_PutDots_o_l0 l) l (fun i t => ((i : Int), t)) (fun t d => if V.goodD d = true then t ++ [d] else t) (fun t => pure t) (fun i t => t.length ≤ i) (fun i x t hx hi hI => by
    have hd : decide ((i : Int) < (l.length : Int)) = true := by simpa using hi
    refine ⟨?_, by split
                   · simp; omega
                   · omega⟩
    unfold dcode_PutDots_o_l0
    simp only [hd, cond_true, idx_nat hx, pure_bind, V.dot_Good_eq, det_pure, wSucc (show i < 9223372036854775807 by omega)]
    by_cases c : V.goodD x = true
    · rw [c, cond_true, need_true (by simp; omega), pure_bind, if_pos rfl]
    · simp only [Bool.not_eq_true] at c
      rw [c, cond_false, pure_bind]; rfl) (fun t _ => by
    unfold dcode_PutDots_o_l0
    simp [pure_bind]) [] (by simp)
  rw [show (0 : Int) = ((0 : Nat) : Int) from rfl, this]
  congr 1
  have key : ∀ (l t : List TDot), l.foldl (fun t d => if V.goodD d = true then t ++ [d] else t) t = t ++ goods l := by
    intro l
    induction l with
    | nil => intro t; simp [goods]
    | cons x r ih =>
      intro t
      rw [List.foldl_cons, ih]
      unfold goods
      by_cases c : V.goodD x = true
      · rw [if_pos c, List.filter_cons_of_pos c, List.append_assoc]; rfl
      · rw [if_neg c, List.filter_cons_of_neg c]
  simpa using key l []
theorem good_mem {l : List TDot} {d : TDot} : d ∈ sortD (goods l) ↔ d ∈ l ∧ V.goodD d = true := by rw [sort_mem, goods, List.mem_filter]
theorem good_len (l : List TDot) : (sortD (goods l)).length ≤ l.length := Nat.le_trans (sort_len _) (List.length_filter_le _ _)
theorem okD_good {l : List TDot} (h : ∀ d ∈ l, OkD d) : ∀ d ∈ sortD (goods l), OkD d := fun d hd => h d (good_mem.1 hd).1
theorem encDs_len {l : List TDot} (h : ∀ d ∈ l, OkD d) (hl : l.length ≤ 1000000000000) : (encDs l).length ≤ 9 + 18 * l.length := by
  have h1 := N.encI_len (v := ((sortD (goods l)).length : Int)) (by have := good_len l; omega)
  have h2 := flat_len (sortD (goods l)) encD 18 fun x hx => encD_len (okD_good h x hx)
  have h3 := good_len l
  rw [encDs, List.length_append]; omega
theorem PutDots_eq {l : List TDot} (h : ∀ d ∈ l, OkD d) (hl : l.length ≤ 1000000000) (row : List Int) (hr : row.length ≤ 100000000000) : dcode_PutDots_o l row = pure (row ++ encDs l) := by
  have h3 := good_len l
  have h1 := N.encI_len (v := ((sortD (goods l)).length : Int)) (by omega)
  have h2 := flat_len (sortD (goods l)) encD 18 fun x hx => encD_len (okD_good h x hx)
  unfold dcode_PutDots_o
  rw [good_loop l (by omega), pure_bind, Sort_eq _ (by have := List.length_filter_le V.goodD l; unfold goods; omega), det_pure, pure_bind, wU64 (by omega) (by omega), N.WNum_eq row (by omega) (by omega) (by omega), det_pure, pure_bind]
  have := loopApp (body := dcode_PutDots_o_l1 (sortD (goods l))) (sortD (goods l)) encD (row ++ N.encI ((sortD (goods l)).length : Int)) 1000000000000 (fun i out => ((i : Int), out)) (fun t => pure t) (by rw [List.length_append]; omega) (fun i x out hx hi ho => by
    have hd : decide ((i : Int) < ((sortD (goods l)).length : Int)) = true := by simpa using hi
    unfold dcode_PutDots_o_l1
    simp only [hd, cond_true, idx_nat hx, pure_bind, PutDot_eq (okD_good h x (List.mem_of_getElem? hx)) out (by omega), det_pure, wSucc (show i < 9223372036854775807 by omega)]) (fun out => by
    unfold dcode_PutDots_o_l1
    simp [pure_bind])
  rw [show (0 : Int) = ((0 : Nat) : Int) from rfl, this, encDs, List.append_assoc]
theorem rgood_loop (l : List TDot) (hl : l.length ≤ 1000000000000) : loop (r15_PutDots_l0 l) ([], 0) = pure (sortD (goods l)) := by
  have := loopL (body := r15_PutDots_l0 l) l (fun i t => (t, (i : Int))) (fun t d => if V.goodD d = true then insD t d else t) (fun t => pure t) (fun i t => t.length ≤ i) (fun i x t hx hi hI => by
    have hd : decide ((i : Int) < (l.length : Int)) = true := by simpa using hi
    refine ⟨?_, by split
                   · have := ins_len t x; omega
                   · omega⟩
    unfold r15_PutDots_l0
    simp only [hd, cond_true, idx_nat hx, pure_bind, V.r07_Good_eq, det_pure, wSucc (show i < 9223372036854775807 by omega)]
    by_cases c : V.goodD x = true
    · rw [c, cond_true, rPut_eq t x (by omega), det_pure, pure_bind, pure_bind, if_pos rfl]
    · simp only [Bool.not_eq_true] at c
      rw [c, cond_false, pure_bind]; rfl) (fun t _ => by
    unfold r15_PutDots_l0
    simp [pure_bind]) [] (by simp)
  rw [show (0 : Int) = ((0 : Nat) : Int) from rfl, this]
  congr 1
  have key : ∀ (l t : List TDot), l.foldl (fun t d => if V.goodD d = true then insD t d else t) t = (goods l).foldl insD t := by
    intro l
    induction l with
    | nil => intro t; rfl
    | cons x r ih =>
      intro t
      rw [List.foldl_cons, ih]
      unfold goods
      by_cases c : V.goodD x = true
      · rw [if_pos c, List.filter_cons_of_pos c]; rfl
      · rw [if_neg c, List.filter_cons_of_neg c]
  exact key l []
theorem rPutDots_eq {l : List TDot} (h : ∀ d ∈ l, OkD d) (hl : l.length ≤ 1000000000) (row : List Int) (hr : row.length ≤ 100000000000) : r15_PutDots row l = pure (row ++ encDs l) := by
  have h3 := good_len l
  have h1 := N.encI_len (v := ((sortD (goods l)).length : Int)) (by omega)
  have h2 := flat_len (sortD (goods l)) encD 18 fun x hx => encD_len (okD_good h x hx)
  unfold r15_PutDots
  rw [rgood_loop l (by omega), pure_bind, wU64 (by omega) (by omega), N.rAppend_eq row (by omega) (by omega) (by omega), det_pure, pure_bind]
  have := loopApp (body := r15_PutDots_l1 (sortD (goods l))) (sortD (goods l)) encD (row ++ N.encI ((sortD (goods l)).length : Int)) 1000000000000 (fun i out => (out, (i : Int))) (fun t => pure t) (by rw [List.length_append]; omega) (fun i x out hx hi ho => by
    have hd : decide ((i : Int) < ((sortD (goods l)).length : Int)) = true := by simpa using hi
    unfold r15_PutDots_l1
    simp only [hd, cond_true, idx_nat hx, pure_bind, rPutDot_eq (okD_good h x (List.mem_of_getElem? hx)) out (by omega), det_pure, wSucc (show i < 9223372036854775807 by omega)]) (fun out => by
    unfold r15_PutDots_l1
    simp [pure_bind])
  rw [show (0 : Int) = ((0 : Nat) : Int) from rfl, this, pure_bind, encDs, List.append_assoc]

def encR (x : TRun) : List Int := N.encI x.lo ++ N.encI x.hi
def encP (p : TPart) : List Int := N.encI p.dev ++ (N.encI p.runs.length ++ p.runs.flatMap encR)
def encN (c : List TPart) : List Int := N.encI c.length ++ c.flatMap encP
def encC (c : List TPart) : List Int := encN (C.normC c)
structure OkP (p : TPart) : Prop where
  d0 : 0 ≤ p.dev
  d1 : p.dev ≤ 65535
  r : ∀ x ∈ p.runs, (0 ≤ x.lo ∧ x.lo ≤ 18446744073709551615) ∧ 0 ≤ x.hi ∧ x.hi ≤ 18446744073709551615
theorem encR_len {x : TRun} (h : (0 ≤ x.lo ∧ x.lo ≤ 18446744073709551615) ∧ 0 ≤ x.hi ∧ x.hi ≤ 18446744073709551615) : (encR x).length ≤ 18 := by
  have h1 := N.encI_len h.1.2
  have h2 := N.encI_len h.2.2
  rw [encR, List.length_append]; omega
theorem encP_len {p : TPart} (h : OkP p) (hl : p.runs.length ≤ 1000000000000) : (encP p).length ≤ 18 + 18 * p.runs.length := by
  have h1 := N.encI_len (v := p.dev) (by have := h.d1; omega)
  have h2 := N.encI_len (v := (p.runs.length : Int)) (by omega)
  have h3 := flat_len p.runs encR 18 fun x hx => encR_len (h.r x hx)
  rw [encP, List.length_append, List.length_append]; omega
theorem flatP_len (c : List TPart) (h : ∀ p ∈ c, OkP p) (hl : C.totC c ≤ 1000000000000) : (c.flatMap encP).length ≤ 18 * c.length + 18 * C.totC c := by
  induction c with
  | nil => simp
  | cons p r ih =>
    have e : C.totC (p :: r) = p.runs.length + C.totC r := by simp [C.totC]
    have h1 := encP_len (h p (by simp)) (by omega)
    have h2 := ih (fun q hq => h q (by simp [hq])) (by omega)
    rw [List.flatMap_cons, List.length_append, List.length_cons, e]; omega
theorem encN_len {c : List TPart} (h : ∀ p ∈ c, OkP p) (hc : c.length ≤ 1000000000000) (hl : C.totC c ≤ 1000000000000) : (encN c).length ≤ 9 + 18 * c.length + 18 * C.totC c := by
  have h1 := N.encI_len (v := (c.length : Int)) (by omega)
  have h2 := flatP_len c h hl
  rw [encN, List.length_append]; omega
theorem okP_norm {c : List TPart} (h : ∀ p ∈ c, p.dev ≤ 65535) : ∀ p ∈ C.normC c, OkP p := fun p hp => by
  have h1 := (C.canon_norm c).nf p hp
  refine ⟨by omega, ?_, fun x hx => ?_⟩
  · have h2 := (C.mem_partsOf.1 hp).1
    obtain ⟨q, hq, e⟩ := (C.mem_devs.1 h2).1
    rw [← e]; exact h q hq
  · have := R.mayR_iff.1 (h1.2.2.may x hx)
    omega


theorem PutCtx_eq {c : List TPart} (ho : C.Ok c) (h : ∀ p ∈ c, p.dev ≤ 65535) (hs : c.length ≤ 100000000 ∧ C.totC c ≤ 100000000) (row : List Int) (hr : row.length ≤ 100000000000) : dcode_PutCtx_o c row = pure (row ++ encC c) := by
  have hn := C.len_normC c
  have ht := C.tot_normC c
  have hp := okP_norm h
  have hl := encN_len hp (by omega) (by omega)
  have h9 := N.encI_len (v := ((C.normC c).length : Int)) (by omega)
  have hf := flatP_len (C.normC c) hp (by omega)
  unfold dcode_PutCtx_o
  rw [C.Norm_eq c ho.sm, det_pure, pure_bind, wU64 (by omega) (by omega), N.WNum_eq row (by omega) (by omega) (by omega), det_pure, pure_bind]
  have := loopApp (body := dcode_PutCtx_o_l1 (C.normC c)) (C.normC c) encP (row ++ N.encI ((C.normC c).length : Int)) 1000000000000 (fun i out => ((i : Int), out)) (fun t => pure t) (by rw [List.length_append]; omega) (fun i p out hx hi hout => by
    have hd : decide ((i : Int) < ((C.normC c).length : Int)) = true := by simpa using hi
    have hm := List.mem_of_getElem? hx
    have hpp := hp p hm
    have hrl : p.runs.length ≤ 1000000000 := by have := C.run_le p hm; omega
    have e1 := N.encI_len (v := p.dev) (by have := hpp.d1; omega)
    have e2 := N.encI_len (v := (p.runs.length : Int)) (by omega)
    have e3 := flat_len p.runs encR 18 fun x hx => encR_len (hpp.r x hx)
    unfold dcode_PutCtx_o_l1
    simp only [hd, cond_true, idx_nat hx, pure_bind]
    rw [wU64 hpp.d0 (by have := hpp.d1; omega), N.WNum_eq out hpp.d0 (by have := hpp.d1; omega) (by omega), det_pure, pure_bind, wU64 (by omega) (by omega), N.WNum_eq _ (by omega) (by omega) (by rw [List.length_append]; omega), det_pure, pure_bind]
    have := loopApp (body := dcode_PutCtx_o_l0 p) p.runs encR (out ++ N.encI p.dev ++ N.encI (p.runs.length : Int)) 2000000000000 (fun i out => ((i : Int), out)) (fun t => pure t) (by rw [List.length_append, List.length_append]; omega) (fun j x out2 hx2 hj hout2 => by
      have hd2 : decide ((j : Int) < (p.runs.length : Int)) = true := by simpa using hj
      have hxr := hpp.r x (List.mem_of_getElem? hx2)
      have e4 := N.encI_len hxr.1.2
      unfold dcode_PutCtx_o_l0
      simp only [hd2, cond_true, idx_nat hx2, pure_bind]
      rw [N.WNum_eq out2 hxr.1.1 hxr.1.2 (by omega), det_pure, pure_bind, N.WNum_eq _ hxr.2.1 hxr.2.2 (by rw [List.length_append]; omega), det_pure, pure_bind, wSucc (show j < 9223372036854775807 by omega), encR, List.append_assoc]) (fun out => by
      unfold dcode_PutCtx_o_l0
      simp [pure_bind])
    rw [show (0 : Int) = ((0 : Nat) : Int) from rfl, this, pure_bind, wSucc (show i < 9223372036854775807 by omega), encP]
    simp only [List.append_assoc]) (fun out => by
    unfold dcode_PutCtx_o_l1
    simp [pure_bind])
  rw [show (0 : Int) = ((0 : Nat) : Int) from rfl, this, encC, encN, List.append_assoc]
theorem encC_len {c : List TPart} (h : ∀ p ∈ c, p.dev ≤ 65535) (hs : c.length ≤ 100000000 ∧ C.totC c ≤ 100000000) : (encC c).length ≤ 10000000000 := by
  have hn := C.len_normC c
  have ht := C.tot_normC c
  have hl := encN_len (okP_norm h) (by omega) (by omega)
  rw [encC]; omega
theorem Encode_eq {c : List TPart} (ho : C.Ok c) (h : ∀ p ∈ c, p.dev ≤ 65535) (hs : c.length ≤ 100000000 ∧ C.totC c ≤ 100000000) : dcode_Encode c = pure (encC c) := by
  have := encC_len h hs
  unfold dcode_Encode
  rw [PutCtx_eq ho h hs [] (by simp), det_pure, pure_bind, List.nil_append, N.Bytes_eq _ (by omega), det_pure, pure_bind]
theorem equal_eq {a b : List Int} : l15_equal a b = pure (decide (strL a = strL b)) := rfl
theorem ctx_one : C.normC [⟨1, [⟨1, 2⟩]⟩] = [⟨1, [⟨1, 2⟩]⟩] := (C.Canon.eq_norm ⟨by simp [C.OrdP], fun p hp => by
  rw [List.mem_singleton.1 hp]
  exact ⟨by decide, by simp, by simp [R.Nf, R.mayR_iff]⟩⟩).symm
theorem works_eq : l15_works = pure true := by
  unfold l15_works
  have ho : C.Ok [⟨1, [⟨1, 2⟩]⟩] := ⟨fun p hp => by rw [List.mem_singleton.1 hp]; decide, by simp, by simp [C.totC]⟩
  rw [Encode_eq ho (fun p hp => by rw [List.mem_singleton.1 hp]; decide) (by simp [C.totC]), det_pure, pure_bind, equal_eq, det_pure, pure_bind]
  have e : encC [⟨1, [⟨1, 2⟩]⟩] = [1, 1, 1, 1, 1, 1, 1, 1, 1, 2] := by
    rw [encC, ctx_one]
    have e1 : N.encI 1 = [1, 1] := by
      show (N.lenN 1 : Int) :: N.be 1 (N.lenN 1) = _
      have : N.lenN 1 = 1 := by rw [N.lenN_pos (by decide), show 1 / 256 = 0 from rfl, N.lenN_zero]
      rw [this]; rfl
    have e2 : N.encI 2 = [1, 2] := by
      show (N.lenN 2 : Int) :: N.be 2 (N.lenN 2) = _
      have : N.lenN 2 = 1 := by rw [N.lenN_pos (by decide), show 2 / 256 = 0 from rfl, N.lenN_zero]
      rw [this]; rfl
    simp [encN, encP, encR, e1, e2]
  rw [e]; simp
open N (RS Ok numS uptoS failS endS OkB Sim)

def bad4 (c : Bool) (s : RS) : RS := if c = true then failS 4 s else s
def fin {α : Type} (z x : α) (t : RS) : α × RS := if t.2 ≠ 0 then (z, t) else (x, t)
theorem fail_le (e : Int) (s : RS) : (failS e s).1.length ≤ s.1.length := by unfold failS; split <;> simp
theorem ok_bad4 {s : RS} (h : Ok s) (c : Bool) : Ok (bad4 c s) := by unfold bad4; split; exact N.ok_fail h _; exact h
theorem bad4_le (c : Bool) (s : RS) : (bad4 c s).1.length ≤ s.1.length := by unfold bad4; split; exact fail_le _ _; exact Nat.le_refl _
theorem bad4_ok {c : Bool} {s : RS} (h : (bad4 c s).2 = 0) : c = false ∧ s.2 = 0 ∧ bad4 c s = s := by
  unfold bad4 at h ⊢
  cases c with
  | true => exact absurd h (N.fail_bad (by decide))
  | false => exact ⟨rfl, h, rfl⟩
theorem bad4_of {c : Bool} {s : RS} (h : s.2 ≠ 0) : bad4 c s = s := by unfold bad4; split; exact N.fail_of 4 h; rfl
theorem bad4_true {s : RS} : (bad4 true s).2 ≠ 0 := N.fail_bad (by decide)
theorem bad4_false {s : RS} : bad4 false s = s := rfl
theorem fin_st {α : Type} (z x : α) (t : RS) : (fin z x t).2 = t := by unfold fin; split <;> rfl
theorem fin_ok {α : Type} {z x : α} {t : RS} (h : t.2 = 0) : fin z x t = (x, t) := if_neg (by simp [h])
theorem fin_bad {α : Type} {z x : α} {t : RS} (h : t.2 ≠ 0) : fin z x t = (z, t) := if_pos h
theorem pbad_eq (c : Bool) (s : RS) : ((cond c ((det (pack_Reader_Fail_o 4 s.1 s.2)).bind fun y => pure (y.1, y.2)) (pure (s.1, s.2))) : M RS) = pure (bad4 c s) := by
  cases c with
  | true => rw [cond_true, N.Fail_eq, det_pure, pure_bind]; rfl
  | false => rfl
theorem pbad_neg (c : Bool) (s : RS) : ((cond (!c) ((det (pack_Reader_Fail_o 4 s.1 s.2)).bind fun y => pure (y.1, y.2)) (pure (s.1, s.2))) : M RS) = pure (bad4 (!c) s) := pbad_eq (!c) s
theorem pfin_eq {α : Type} (z x : α) (t : RS) : ((det (pack_Reader_Err_o t.1 t.2)).bind fun y => (cond (!decide (y.1 = 0)) (pure (z, y.2.1, y.2.2)) (pure (x, y.2.1, y.2.2)) : M (α × List Int × Int))) = pure (fin z x t) := by
  rw [N.Err_eq, det_pure, pure_bind]
  by_cases h : t.2 = 0
  · rw [fin_ok h, decide_eq_true h]; rfl
  · rw [fin_bad h, decide_eq_false h]; rfl
/-- .. of the reference. -/
theorem rbad_eq (B : List Int) (a : Int) (c : Bool) (s : RS) : ((cond c ((det (epitaphref04_Reader_Fail_o 4 B a s.2)).bind fun y => pure (y.1, y.2.1, y.2.2)) (pure (B, a, s.2))) : M (List Int × Int × Int)) = pure (B, a, (bad4 c s).2) := by
  cases c with
  | true => rw [cond_true, N.rFail_eq B a s (by decide), det_pure, pure_bind]; rfl
  | false => rfl
theorem sim_bad4 {B : List Int} {a : Int} {s : RS} (h : Sim B a s) (c : Bool) : Sim B a (bad4 c s) := by unfold bad4; split; exact h.fail (by decide); exact h
theorem rand_eq (e : Int) (m : M Bool) (q : Bool) (h : m = pure q) : (cond (decide (e = 0)) m (pure false) : M Bool) = pure (decide (e = 0) && q) := by rw [h, cond_pure_and]
theorem bad4_and (q : Bool) (s : RS) : bad4 (decide (s.2 = 0) && q) s = bad4 q s := by
  by_cases h : s.2 = 0
  · rw [decide_eq_true h, Bool.true_and]
  · rw [decide_eq_false h, Bool.false_and, bad4_of h, bad4_of h]

theorem num_le (s : RS) : (numS s).2.1.length ≤ s.1.length := by
  unfold numS
  split
  · exact Nat.le_refl _
  · split
    · exact fail_le _ _
    · simp
theorem num_lt {s : RS} (hO : Ok s) (h0 : s.2 = 0) (h : (numS s).2.2 = 0) : (numS s).2.1.length + 1 ≤ s.1.length := by
  unfold numS at h ⊢
  rw [if_neg (by simp [h0])] at h ⊢
  by_cases c : (N.rdN s.1).2.2 = 0
  · rw [if_neg (by simp [c])]
    rcases N.rdN_cases s.1 hO.by_ with (h1 | h1) | ⟨n, r, h1, h2, h3, h4, _, h5⟩
    · rw [h1] at c; simp at c
    · rw [h1] at c; simp at c
    · rw [h5, h1]; simp
  · rw [if_pos c] at h
    exact absurd h (N.fail_bad c)
theorem num_zero {s : RS} (h : (numS s).2.2 ≠ 0) : (numS s).1 = 0 := by
  unfold numS at h ⊢
  by_cases c : s.2 ≠ 0
  · rw [if_pos c]
  · rw [if_neg c] at h ⊢
    by_cases c2 : (N.rdN s.1).2.2 ≠ 0
    · rw [if_pos c2]
    · rw [if_neg c2] at h; exact absurd rfl h
theorem upto_le (m : Int) (s : RS) : (uptoS m s).2.1.length ≤ s.1.length := by
  have h1 := num_le s
  have h2 := fail_le 4 (numS s).2
  unfold uptoS
  by_cases c : m < (numS s).1
  · rw [if_pos c]; exact Nat.le_trans h2 h1
  · rw [if_neg c]; exact h1
theorem num_bad {s : RS} (h : s.2 ≠ 0) : (numS s).2 = s := by rw [N.num_of h]
theorem num_ok {s : RS} (h : (numS s).2.2 = 0) : s.2 = 0 := Classical.byContradiction fun c => by rw [num_bad c] at h; exact c h
theorem upto_ok {m : Int} {s : RS} (h : (uptoS m s).2.2 = 0) : (numS s).2.2 = 0 ∧ uptoS m s = numS s := by
  unfold uptoS at h ⊢
  by_cases c : m < (numS s).1
  · rw [if_pos c] at h; exact absurd h (N.fail_bad (by decide))
  · rw [if_neg c] at h ⊢; exact ⟨h, rfl⟩

def dotR (s : RS) : TDot := ⟨(uptoS 65535 s).1, (numS (uptoS 65535 s).2).1⟩
def dotT (s : RS) : RS := bad4 (!V.goodD (dotR s)) (numS (uptoS 65535 s).2).2
def dotS (s : RS) : TDot × RS := fin ⟨0, 0⟩ (dotR s) (dotT s)
theorem ok_dot {s : RS} (h : Ok s) : Ok (dotS s).2 ∧ OkD (dotS s).1 ∧ OkD (dotR s) := by
  obtain ⟨h1, h2, h3⟩ := N.ok_upto h (m := 65535) (by decide)
  obtain ⟨h4, h5, h6⟩ := N.ok_num h1
  have ht : Ok (dotT s) := ok_bad4 h4 _
  have hr : OkD (dotR s) := ⟨h2, h3, h5, h6⟩
  unfold dotS
  by_cases c : (dotT s).2 = 0
  · rw [fin_ok c]; exact ⟨ht, hr, hr⟩
  · rw [fin_bad c]; exact ⟨ht, ⟨Int.le_refl _, by simp, Int.le_refl _, by simp⟩, hr⟩
theorem dot_ok {s : RS} (h : (dotS s).2.2 = 0) : V.goodD (dotS s).1 = true ∧ (uptoS 65535 s).2.2 = 0 ∧ (numS (uptoS 65535 s).2).2.2 = 0 ∧ dotS s = (dotR s, (numS (uptoS 65535 s).2).2) := by
  unfold dotS at h ⊢
  rw [fin_st] at h
  rw [fin_ok h]
  obtain ⟨h1, h2, h3⟩ := bad4_ok h
  refine ⟨by simpa using h1, num_ok h2, h2, ?_⟩
  show (dotR s, dotT s) = _
  rw [show dotT s = (numS (uptoS 65535 s).2).2 from h3]
theorem dot_le (s : RS) : (dotS s).2.1.length ≤ s.1.length := by
  unfold dotS
  rw [fin_st]
  exact Nat.le_trans (bad4_le _ _) (Nat.le_trans (num_le _) (upto_le _ _))
theorem dot_lt {s : RS} (hO : Ok s) (h0 : s.2 = 0) (h : (dotS s).2.2 = 0) : (dotS s).2.1.length + 1 ≤ s.1.length := by
  obtain ⟨_, h1, h2, h3⟩ := dot_ok h
  obtain ⟨h4, h5⟩ := upto_ok h1
  rw [h3]
  have h6 := num_le (uptoS 65535 s).2
  rw [h5] at h6 ⊢
  have h7 := num_lt hO h0 h4
  exact Nat.le_trans (Nat.add_le_add_right h6 1) h7
theorem Dot_eq {s : RS} (h : Ok s) : dcode_Dot_o s.1 s.2 = pure (dotS s) := by
  obtain ⟨h1, h2, h3⟩ := N.ok_upto h (m := 65535) (by decide)
  unfold dcode_Dot_o dotS
  rw [N.Upto_eq h, det_pure, pure_bind, N.Num_eq h1, det_pure, pure_bind, wU16 h2 h3, V.dot_Good_eq, det_pure, pure_bind]
  have e := pbad_neg (V.goodD (dotR s)) (numS (uptoS 65535 s).2).2
  unfold dotR at e
  rw [e, pure_bind]
  exact pfin_eq _ _ _
variable {B : List Int} {a : Int} {s : RS}
theorem rDot_eq (hB : OkB B) (hO : Ok s) (h : Sim B a s) : ∃ a', r15_Dot_o B a s.2 = pure ((dotS s).1, B, a', (dotS s).2.2) ∧ Sim B a' (dotS s).2 := by
  obtain ⟨h1, h2, h3⟩ := N.ok_upto hO (m := 65535) (by decide)
  obtain ⟨a1, e1, s1⟩ := N.rUpto_eq hB h 65535
  obtain ⟨a2, e2, s2⟩ := N.rNum_eq hB s1
  unfold r15_Dot_o dotS
  rw [e1, det_pure, pure_bind, e2, det_pure, pure_bind, wU16 h2 h3]
  have e3 := rand_eq (numS (uptoS 65535 s).2).2.2 ((det (r07_Good ⟨(uptoS 65535 s).1, (numS (uptoS 65535 s).2).1⟩)).bind fun v10 => pure (!v10)) (!V.goodD (dotR s)) (by rw [V.r07_Good_eq, det_pure, pure_bind]; rfl)
  have e4 := rbad_eq B a2 (decide ((numS (uptoS 65535 s).2).2.2 = 0) && !V.goodD (dotR s)) (numS (uptoS 65535 s).2).2
  rw [bad4_and] at e4
  simp only [] at e3 e4 ⊢
  rw [e3, pure_bind, e4, pure_bind]
  rw [fin_st]
  refine ⟨a2, ?_, sim_bad4 s2 _⟩
  show (cond (!decide ((dotT s).2 = 0)) (pure (⟨0, 0⟩, B, a2, (dotT s).2)) (pure (dotR s, B, a2, (dotT s).2)) : M _) = _
  by_cases c : (dotT s).2 = 0
  · rw [fin_ok c, decide_eq_true c]; rfl
  · rw [fin_bad c, decide_eq_false c]; rfl

def lastGe (out : List TDot) (x : TDot) : Bool := match out.getLast? with | some y => decide (0 ≤ V.cmpD y x) | none => false
def dotsT (out : List TDot) (s : RS) : RS := bad4 (lastGe out (dotS s).1) (dotS s).2
def dotsL : Nat → List TDot → RS → List TDot × RS
  | 0, out, s => (out, s)
  | k + 1, out, s => if (dotsT out s).2 ≠ 0 then ([], dotsT out s) else dotsL k (out ++ [(dotS s).1]) (dotsT out s)
def dotsS (most : Int) (s : RS) : List TDot × RS := if max most 0 < (numS s).1 then ([], failS 3 (numS s).2) else dotsL (numS s).1.toNat [] (numS s).2
theorem dotsL_bad {k : Nat} {out : List TDot} {s : RS} (h : (dotsT out s).2 ≠ 0) : dotsL (k + 1) out s = ([], dotsT out s) := if_pos h
theorem dotsL_next {k : Nat} {out : List TDot} {s : RS} (h : (dotsT out s).2 = 0) : dotsL (k + 1) out s = dotsL k (out ++ [(dotS s).1]) (dotsT out s) := if_neg (by simp [h])
theorem ok_dotsT {s : RS} (h : Ok s) (out : List TDot) : Ok (dotsT out s) := ok_bad4 (ok_dot h).1 _
theorem ok_dotsL : ∀ (k : Nat) (out : List TDot) (s : RS), Ok s → Ok (dotsL k out s).2
  | 0, _, _, h => h
  | k + 1, out, s, h => by
    by_cases c : (dotsT out s).2 = 0
    · rw [dotsL_next c]; exact ok_dotsL k _ _ (ok_dotsT h out)
    · rw [dotsL_bad c]; exact ok_dotsT h out
theorem ok_dots {s : RS} (h : Ok s) (most : Int) : Ok (dotsS most s).2 := by
  have h1 := N.ok_num h
  unfold dotsS
  split
  · exact N.ok_fail h1.1 _
  · exact ok_dotsL _ _ _ h1.1
theorem last_idx {out : List TDot} (h : out.length ≤ 1000000000000) (x : TDot) (cmp : TDot → TDot → M Int) (hc : ∀ y, cmp y x = pure (V.cmpD y x)) :
    ((cond (decide (0 ≤ IntKind.i64.wrap ((out.length : Int) - 1))) ((idx out (IntKind.i64.wrap ((out.length : Int) - 1))).bind fun x61 => (det (cmp x61 x)).bind fun v63 => pure (decide (0 ≤ v63))) (pure false)) : M Bool) = pure (lastGe out x) := by
  unfold lastGe
  rcases R.snoc_cases out with rfl | ⟨r, y, rfl⟩
  · rfl
  · have hl : ((r ++ [y]).length : Int) - 1 = (r.length : Int) := by simp
    rw [hl, wI64 (by omega) (by simp at h; omega)]
    have : decide ((0 : Int) ≤ (r.length : Int)) = true := by simp
    rw [this, cond_true, idx_nat (y := y) (by simp), pure_bind, hc, det_pure, pure_bind]
    simp
theorem dotsT_ok {out : List TDot} {s : RS} (h : (dotsT out s).2 = 0) : lastGe out (dotS s).1 = false ∧ (dotS s).2.2 = 0 ∧ dotsT out s = (dotS s).2 := bad4_ok h
theorem dots_loop {y4 : Int × List Int × Int} (hn : 0 ≤ y4.1 ∧ y4.1 ≤ 18446744073709551615) : ∀ (k i : Nat) (out : List TDot) (s : RS), (i : Int) + k = y4.1 → Ok s → s.2 = 0 → out.length + s.1.length ≤ 1000000000 →
    (loop (dcode_Dots_o_l0 y4) ((i : Int), out, s.1, s.2)).bind (exk fun ⟨out9, v10, v11⟩ => pure (out9, v10, v11)) = pure (dotsL k out s)
  | 0, i, out, s, hi, _, _, _ => by
    rw [loop_done (r := .brk (out, s.1, s.2)) (by
      unfold dcode_Dots_o_l0
      have : decide ((i : Int) < y4.1) = false := by simp; omega
      simp only [this, cond_false])]
    rfl
  | k + 1, i, out, s, hi, hO, h0, hl => by
    have hd := ok_dot hO
    have hc : decide ((i : Int) < y4.1) = true := by simp; omega
    have hlast := last_idx (out := out) (by omega) (dotS s).1 dot_Cmp (fun y => Cmp_eq y _)
    have hw : IntKind.u64.wrap ((i : Int) + 1) = ((i + 1 : Nat) : Int) := by rw [wU64 (by omega) (by omega)]; omega
    have hb : dcode_Dots_o_l0 y4 ((i : Int), out, s.1, s.2) = (det (pack_Reader_Err_o (dotsT out s).1 (dotsT out s).2)).bind fun y70 => cond (!decide (y70.1 = 0)) (pure (.done (.ret ([], y70.2.1, y70.2.2)))) (need ((out.length + [(dotS s).1].length) * 16 ≤ 140737488355328) (pure (.next (IntKind.u64.wrap ((i : Int) + 1), out ++ [(dotS s).1], y70.2.1, y70.2.2)))) := by
      unfold dcode_Dots_o_l0
      have e := pbad_eq (lastGe out (dotS s).1) (dotS s).2
      simp only [hc, cond_true, Dot_eq hO, det_pure, pure_bind]
      rw [hlast, pure_bind, e, pure_bind]
      rfl
    rw [N.Err_eq, det_pure, pure_bind] at hb
    by_cases c : (dotsT out s).2 = 0
    · obtain ⟨_, c2, c3⟩ := dotsT_ok c
      have hlt := dot_lt hO h0 c2
      rw [decide_eq_true c, Bool.not_true, cond_false, need_true (by simp; omega), hw] at hb
      rw [loop_next hb, dotsL_next c]
      exact dots_loop hn k (i + 1) _ (dotsT out s) (by omega) (ok_dotsT hO out) c (by rw [c3]; simp; omega)
    · rw [decide_eq_false c, Bool.not_false, cond_true] at hb
      rw [loop_done hb, dotsL_bad c]
      rfl
theorem Dots_eq {s : RS} (hO : Ok s) {most : Int} (hm : most ≤ 9223372036854775807) : dcode_Dots_o most s.1 s.2 = pure (dotsS most s) := by
  obtain ⟨h1, h2, h3⟩ := N.ok_num hO
  unfold dcode_Dots_o dotsS
  rw [N.Num_eq hO, det_pure, pure_bind, wU64 (n := max most 0) (by omega) (by omega)]
  by_cases c : max most 0 < (numS s).1
  · rw [decide_eq_true c, cond_true, if_pos c, N.Fail_eq 3 (numS s).2, det_pure, pure_bind]
  · rw [decide_eq_false c, cond_false, if_neg c]
    by_cases c2 : (numS s).2.2 = 0
    · exact dots_loop (y4 := numS s) ⟨h2, h3⟩ (numS s).1.toNat 0 [] (numS s).2 (by omega) h1 c2 (by simp; have := h1.len; omega)
    · have hz := num_zero c2
      rw [hz, loop_done (r := .brk ([], (numS s).2.1, (numS s).2.2)) (by
        unfold dcode_Dots_o_l0
        simp only [hz, show decide ((0 : Int) < 0) = false from rfl, cond_false])]
      rfl
/-- .. the reference's loop. -/
theorem rdots_loop (hB : OkB B) {y7 : Int × List Int × Int × Int} (hn : 0 ≤ y7.1 ∧ y7.1 ≤ 18446744073709551615) : ∀ (k i : Nat) (out : List TDot) (s : RS) (a : Int), (i : Int) + k = y7.1 → Ok s → s.2 = 0 → Sim B a s → out.length + s.1.length ≤ 1000000000 →
    ∃ out' a', loop (r15_Dots_o_l0 y7) ((i : Int), out, B, a, s.2) = pure (out', B, a', (dotsL k out s).2.2) ∧ Sim B a' (dotsL k out s).2 ∧ ((dotsL k out s).2.2 = 0 → out' = (dotsL k out s).1) ∧ ((dotsL k out s).2.2 ≠ 0 → (dotsL k out s).1 = [])
  | 0, i, out, s, a, hi, _, h0, hS, _ => by
    refine ⟨out, a, loop_done ?_, hS, fun _ => rfl, fun h => absurd h0 h⟩
    unfold r15_Dots_o_l0
    have : decide ((i : Int) < y7.1) = false := by simp; omega
    simp only [this, cond_false, pure_bind]
    rfl
  | k + 1, i, out, s, a, hi, hO, h0, hS, hl => by
    have hc : decide ((i : Int) < y7.1) = true := by simp; omega
    obtain ⟨a1, e1, s1⟩ := rDot_eq hB hO hS
    have hlast := last_idx (out := out) (by omega) (dotS s).1 r07_Cmp (fun y => V.r07_Cmp_eq y _)
    have hle := dot_le s
    have hw : IntKind.u64.wrap ((i : Int) + 1) = ((i + 1 : Nat) : Int) := by rw [wU64 (by omega) (by omega)]; omega
    have hb : r15_Dots_o_l0 y7 ((i : Int), out, B, a, s.2) = pure (.next (((i + 1 : Nat) : Int), out ++ [(dotS s).1], B, a1, (dotsT out s).2)) := by
      unfold r15_Dots_o_l0
      have e3 := rand_eq (dotS s).2.2 _ _ hlast
      have e4 := rbad_eq B a1 (decide ((dotS s).2.2 = 0) && lastGe out (dotS s).1) (dotS s).2
      rw [bad4_and] at e4
      simp only [hc, cond_true, decide_eq_true h0, pure_bind, e1, det_pure]
      rw [e3, pure_bind, e4, pure_bind]
      simp only []
      rw [need_true (by simp; omega), hw]
      rfl
    have hs2 : Sim B a1 (dotsT out s) := sim_bad4 s1 _
    rw [loop_next hb]
    by_cases c : (dotsT out s).2 = 0
    · obtain ⟨_, c2, c3⟩ := dotsT_ok c
      have hlt := dot_lt hO h0 c2
      rw [dotsL_next c]
      exact rdots_loop hB hn k (i + 1) _ (dotsT out s) a1 (by omega) (ok_dotsT hO out) c hs2 (by rw [c3]; simp; omega)
    · rw [dotsL_bad c]
      refine ⟨out ++ [(dotS s).1], a1, loop_done ?_, hs2, fun h => absurd h c, fun _ => rfl⟩
      unfold r15_Dots_o_l0
      have hq : (cond (decide (((i + 1 : Nat) : Int) < y7.1)) (pure (decide ((dotsT out s).2 = 0))) (pure false) : M Bool) = pure false := by
        rw [decide_eq_false c]; cases decide (((i + 1 : Nat) : Int) < y7.1) <;> rfl
      simp only []
      rw [hq, pure_bind]
      rfl
theorem rDots_eq (hB : OkB B) (hO : Ok s) (h : Sim B a s) {most : Int} (hm : most ≤ 9223372036854775807) : ∃ a', r15_Dots_o most B a s.2 = pure ((dotsS most s).1, B, a', (dotsS most s).2.2) ∧ Sim B a' (dotsS most s).2 := by
  obtain ⟨h1, h2, h3⟩ := N.ok_num hO
  obtain ⟨a1, e1, s1⟩ := N.rNum_eq hB h
  unfold r15_Dots_o dotsS
  have hmost : (cond (decide (most < 0)) (pure 0) (pure most) : M Int) = pure (max most 0) := by
    by_cases c : most < 0
    · rw [decide_eq_true c, cond_true]; congr 1; omega
    · rw [decide_eq_false c, cond_false]; congr 1; omega
  rw [hmost, pure_bind, e1, det_pure, pure_bind, wU64 (n := max most 0) (by omega) (by omega)]
  have done : ∀ (out : List TDot) (a2 : Int) (i : Int) (t : RS), t.2 ≠ 0 → loop (r15_Dots_o_l0 ((numS s).1, B, a1, (numS s).2.2)) (i, out, B, a2, t.2) = pure (out, B, a2, t.2) := fun out a2 i t ht => loop_done (by
    unfold r15_Dots_o_l0
    have hq : (cond (decide (i < (numS s).1)) (pure (decide (t.2 = 0))) (pure false) : M Bool) = pure false := by
      rw [decide_eq_false ht]; cases decide (i < (numS s).1) <;> rfl
    simp only []
    rw [hq, pure_bind]
    rfl)
  by_cases c : max most 0 < (numS s).1
  · have hF := N.rFail_eq B a1 (numS s).2 (e := 3) (by decide)
    have hb := N.fail_bad (s := (numS s).2) (e := 3) (by decide)
    rw [decide_eq_true c, cond_true, if_pos c, hF, det_pure, pure_bind, pure_bind]
    simp only []
    rw [done _ _ _ _ hb, pure_bind]
    simp only [decide_eq_false hb, Bool.not_false, cond_true]
    exact ⟨_, rfl, s1.fail (by decide)⟩
  · rw [decide_eq_false c, cond_false, if_neg c, pure_bind]
    simp only []
    by_cases c2 : (numS s).2.2 = 0
    · obtain ⟨out', a', e2, s2, q1, q2⟩ := rdots_loop hB (y7 := ((numS s).1, B, a1, (numS s).2.2)) ⟨h2, h3⟩ (numS s).1.toNat 0 [] (numS s).2 a1 (by simp; omega) h1 c2 s1 (by simp; have := h1.len; omega)
      have e2' : loop (r15_Dots_o_l0 ((numS s).1, B, a1, (numS s).2.2)) (0, [], B, a1, (numS s).2.2) = pure (out', B, a', (dotsL (numS s).1.toNat [] (numS s).2).2.2) := e2
      rw [e2', pure_bind]
      refine ⟨a', ?_, s2⟩
      by_cases c3 : (dotsL (numS s).1.toNat [] (numS s).2).2.2 = 0
      · simp only [decide_eq_true c3, Bool.not_true, cond_false, q1 c3]
      · simp only [decide_eq_false c3, Bool.not_false, cond_true, q2 c3]
    · rw [num_zero c2] at *
      rw [done _ _ _ _ c2, pure_bind]
      simp only [decide_eq_false c2, Bool.not_false, cond_true]
      exact ⟨_, rfl, s1⟩

open N (RS Ok numS uptoS failS endS OkB Sim)

def runsL : Nat → List TRun → RS → List TRun × RS
  | 0, out, s => (out, s)
  | k + 1, out, s =>
    if (numS (numS s).2).2.2 ≠ 0 then (out ++ [⟨(numS s).1, (numS (numS s).2).1⟩], (numS (numS s).2).2) else runsL k (out ++ [⟨(numS s).1, (numS (numS s).2).1⟩]) (numS (numS s).2).2
def partS (s : RS) : TPart × RS := (⟨(uptoS 65535 s).1, (runsL (numS (uptoS 65535 s).2).1.toNat [] (numS (uptoS 65535 s).2).2).1⟩, (runsL (numS (uptoS 65535 s).2).1.toNat [] (numS (uptoS 65535 s).2).2).2)
theorem runsL_bad {k : Nat} {out : List TRun} {s : RS} (h : (numS (numS s).2).2.2 ≠ 0) : runsL (k + 1) out s = (out ++ [⟨(numS s).1, (numS (numS s).2).1⟩], (numS (numS s).2).2) := if_pos h
theorem runsL_next {k : Nat} {out : List TRun} {s : RS} (h : (numS (numS s).2).2.2 = 0) : runsL (k + 1) out s = runsL k (out ++ [⟨(numS s).1, (numS (numS s).2).1⟩]) (numS (numS s).2).2 := if_neg (by simp [h])
theorem two_lt {s : RS} (hO : Ok s) (h0 : s.2 = 0) (h : (numS (numS s).2).2.2 = 0) : (numS (numS s).2).2.1.length + 2 ≤ s.1.length := by
  have h1 := num_ok h
  have h2 := num_lt hO h0 h1
  have h3 := num_lt (N.ok_num hO).1 h1 h
  omega
theorem two_le (s : RS) : (numS (numS s).2).2.1.length ≤ s.1.length := Nat.le_trans (num_le _) (num_le _)
def RunOk (x : TRun) : Prop := (0 ≤ x.lo ∧ x.lo ≤ 18446744073709551615) ∧ 0 ≤ x.hi ∧ x.hi ≤ 18446744073709551615
theorem ok_two {s : RS} (h : Ok s) : Ok (numS (numS s).2).2 ∧ RunOk ⟨(numS s).1, (numS (numS s).2).1⟩ := by
  obtain ⟨h1, h2, h3⟩ := N.ok_num h
  obtain ⟨h4, h5, h6⟩ := N.ok_num h1
  exact ⟨h4, ⟨h2, h3⟩, h5, h6⟩
theorem runsL_props : ∀ (k : Nat) (out : List TRun) (s : RS), Ok s → s.2 = 0 → (∀ x ∈ out, RunOk x) → Ok (runsL k out s).2 ∧ (∀ x ∈ (runsL k out s).1, RunOk x) ∧ (runsL k out s).1.length + (runsL k out s).2.1.length ≤ out.length + s.1.length + 1 ∧
    ((runsL k out s).2.2 = 0 → (runsL k out s).1.length + (runsL k out s).2.1.length ≤ out.length + s.1.length ∧ (runsL k out s).1.length = out.length + k)
  | 0, out, s, h, _, ho => ⟨h, ho, by show out.length + s.1.length ≤ _; omega, fun _ => ⟨Nat.le_refl _, rfl⟩⟩
  | k + 1, out, s, h, h0, ho => by
    obtain ⟨h1, h2⟩ := ok_two h
    have ho' : ∀ x ∈ out ++ [⟨(numS s).1, (numS (numS s).2).1⟩], RunOk x := fun x hx => by
      rcases List.mem_append.1 hx with h | h
      · exact ho x h
      · rw [List.mem_singleton.1 h]; exact h2
    by_cases c : (numS (numS s).2).2.2 = 0
    · rw [runsL_next c]
      obtain ⟨q1, q2, q3, q4⟩ := runsL_props k _ _ h1 c ho'
      have hlt := two_lt h h0 c
      simp only [List.length_append, List.length_singleton] at q3 q4
      refine ⟨q1, q2, by omega, fun hz => ?_⟩
      have := q4 hz
      omega
    · rw [runsL_bad c]
      have := two_le s
      exact ⟨h1, ho', by simp; omega, fun hz => absurd hz c⟩
theorem part_loop {y5 : Int × List Int × Int} (hn : 0 ≤ y5.1 ∧ y5.1 ≤ 18446744073709551615) : ∀ (k i : Nat) (out : List TRun) (s : RS), (i : Int) + k = y5.1 → Ok s → s.2 = 0 → out.length + s.1.length ≤ 1000000000 →
    loop (dcode_part_o_l0 y5) ((i : Int), out, s.1, s.2) = pure (runsL k out s)
  | 0, i, out, s, hi, _, _, _ => by
    exact loop_done (by
      unfold dcode_part_o_l0
      have : decide ((i : Int) < y5.1) = false := by simp; omega
      simp only [this, cond_false]
      rfl)
  | k + 1, i, out, s, hi, hO, h0, hl => by
    obtain ⟨h1, h2, h3⟩ := N.ok_num hO
    have hc : decide ((i : Int) < y5.1) = true := by simp; omega
    have hw : IntKind.u64.wrap ((i : Int) + 1) = ((i + 1 : Nat) : Int) := by rw [wU64 (by omega) (by omega)]; omega
    have hb : dcode_part_o_l0 y5 ((i : Int), out, s.1, s.2) = cond (!decide ((numS (numS s).2).2.2 = 0)) (pure (.done (out ++ [⟨(numS s).1, (numS (numS s).2).1⟩], (numS (numS s).2).2))) (pure (.next (((i + 1 : Nat) : Int), out ++ [⟨(numS s).1, (numS (numS s).2).1⟩], (numS (numS s).2).2.1, (numS (numS s).2).2.2))) := by
      unfold dcode_part_o_l0
      simp only [hc, cond_true, N.Num_eq hO, N.Num_eq h1, det_pure, pure_bind, N.Err_eq]
      rw [need_true (by simp; omega), hw]
    by_cases c : (numS (numS s).2).2.2 = 0
    · have hlt := two_lt hO h0 c
      rw [decide_eq_true c, Bool.not_true, cond_false] at hb
      rw [loop_next hb, runsL_next c]
      exact part_loop hn k (i + 1) _ (numS (numS s).2).2 (by omega) (ok_two hO).1 c (by simp; omega)
    · rw [decide_eq_false c, Bool.not_false, cond_true] at hb
      rw [loop_done hb, runsL_bad c]
theorem part_eq {s : RS} (hO : Ok s) : dcode_part_o s.1 s.2 = pure (partS s) := by
  obtain ⟨h1, h2, h3⟩ := N.ok_upto hO (m := 65535) (by decide)
  obtain ⟨h4, h5, h6⟩ := N.ok_num h1
  unfold dcode_part_o partS
  rw [N.Upto_eq hO, det_pure, pure_bind, N.Num_eq h1, det_pure, pure_bind, wU16 h2 h3]
  by_cases c : (numS (uptoS 65535 s).2).2.2 = 0
  · have := part_loop (y5 := numS (uptoS 65535 s).2) ⟨h5, h6⟩ (numS (uptoS 65535 s).2).1.toNat 0 [] (numS (uptoS 65535 s).2).2 (by omega) h4 c (by simp; have := h4.len; omega)
    rw [show ((0 : Nat) : Int) = 0 from rfl] at this
    rw [this, pure_bind]
  · have hz := num_zero c
    rw [hz, loop_done (r := ([], (numS (uptoS 65535 s).2).2)) (by
      unfold dcode_part_o_l0
      simp only [hz, show decide ((0 : Int) < 0) = false from rfl, cond_false]), pure_bind]
    rfl
theorem part_props {s : RS} (hO : Ok s) (h0 : s.2 = 0) : Ok (partS s).2 ∧ OkP (partS s).1 ∧ ((partS s).1.runs.length ≤ 1000000001) ∧ ((partS s).2.2 = 0 → (partS s).1.runs.length + (partS s).2.1.length + 2 ≤ s.1.length) := by
  obtain ⟨h1, h2, h3⟩ := N.ok_upto hO (m := 65535) (by decide)
  obtain ⟨h4, h5, h6⟩ := N.ok_num h1
  have hl := h4.len
  unfold partS
  by_cases c : (numS (uptoS 65535 s).2).2.2 = 0
  · obtain ⟨q1, q2, q3, q4⟩ := runsL_props (numS (uptoS 65535 s).2).1.toNat [] _ h4 c (by simp)
    refine ⟨q1, ⟨h2, h3, q2⟩, by simp at q3 ⊢; omega, fun hz => ?_⟩
    have hq := q4 hz
    obtain ⟨e1, e2⟩ := upto_ok (num_ok c)
    have h7 := num_lt hO h0 e1
    have h8 := num_lt h1 (num_ok c) c
    rw [e2] at h8 hq ⊢
    simp only [List.length_nil, Nat.zero_add] at hq ⊢
    omega
  · rw [num_zero c]
    refine ⟨h4, ⟨h2, h3, by intro x hx; cases hx⟩, by simp [runsL], fun hz => absurd hz c⟩
def ctxL : Nat → List TPart → RS → Bool × List TPart × RS
  | 0, out, s => (true, out, s)
  | k + 1, out, s => if (partS s).2.2 ≠ 0 then (false, [], (partS s).2) else ctxL k (out ++ [(partS s).1]) (partS s).2
def ctxS (s : RS) : List TPart × RS :=
  let r := ctxL (numS s).1.toNat [] (numS s).2
  if r.1 = true then fin [] r.2.1 (bad4 (!decide (r.2.1 = C.normC r.2.1)) r.2.2) else ([], r.2.2)
theorem ctxL_bad {k : Nat} {out : List TPart} {s : RS} (h : (partS s).2.2 ≠ 0) : ctxL (k + 1) out s = (false, [], (partS s).2) := if_pos h
theorem ctxL_next {k : Nat} {out : List TPart} {s : RS} (h : (partS s).2.2 = 0) : ctxL (k + 1) out s = ctxL k (out ++ [(partS s).1]) (partS s).2 := if_neg (by simp [h])
theorem tot_snoc (c : List TPart) (p : TPart) : C.totC (c ++ [p]) = C.totC c + p.runs.length := by rw [C.totC_app]; simp [C.totC]
theorem ctxL_props : ∀ (k : Nat) (out : List TPart) (s : RS), Ok s → s.2 = 0 → (∀ p ∈ out, OkP p) → out.length + C.totC out + s.1.length ≤ 1000000000 → Ok (ctxL k out s).2.2 ∧ (∀ p ∈ (ctxL k out s).2.1, OkP p) ∧ (ctxL k out s).2.1.length + C.totC (ctxL k out s).2.1 ≤ 1000000000 ∧
    ((ctxL k out s).1 = true ↔ (ctxL k out s).2.2.2 = 0) ∧ ((ctxL k out s).1 = true → (ctxL k out s).2.1.length = out.length + k ∧ (ctxL k out s).2.2.1.length ≤ s.1.length)
  | 0, out, s, h, h0, ho, hl => ⟨h, ho, by show out.length + C.totC out ≤ _; omega, ⟨fun _ => h0, fun _ => rfl⟩, fun _ => ⟨rfl, Nat.le_refl _⟩⟩
  | k + 1, out, s, h, h0, ho, hl => by
    obtain ⟨h1, h2, h3, h4⟩ := part_props h h0
    by_cases c : (partS s).2.2 = 0
    · rw [ctxL_next c]
      have := h4 c
      obtain ⟨q1, q2, q3, q4, q5⟩ := ctxL_props k (out ++ [(partS s).1]) (partS s).2 h1 c (fun p hp => by
        rcases List.mem_append.1 hp with h | h
        · exact ho p h
        · rw [List.mem_singleton.1 h]; exact h2) (by rw [tot_snoc]; simp; omega)
      refine ⟨q1, q2, q3, q4, fun hz => ?_⟩
      have := q5 hz
      simp at this; omega
    · rw [ctxL_bad c]
      exact ⟨h1, by simp, by simp [C.totC], ⟨fun h => (by cases h), fun h => absurd h c⟩, fun h => (by cases h)⟩
theorem ctxL_nil : ∀ (k : Nat) (out : List TPart) (s : RS), (ctxL k out s).1 = false → (ctxL k out s).2.1 = []
  | 0, out, s, h => by cases h
  | k + 1, out, s, h => by
    by_cases c : (partS s).2.2 = 0
    · rw [ctxL_next c] at h ⊢; exact ctxL_nil k _ _ h
    · rw [ctxL_bad c]
theorem ctx_loop {y3 : Int × List Int × Int} (hn : 0 ≤ y3.1 ∧ y3.1 ≤ 18446744073709551615) : ∀ (k i : Nat) (out : List TPart) (s : RS), (i : Int) + k = y3.1 → Ok s → s.2 = 0 → out.length + s.1.length ≤ 1000000000 →
    loop (dcode_Ctx_o_l0 y3) ((i : Int), out, s.1, s.2) = pure (if (ctxL k out s).1 = true then .brk (ctxL k out s).2 else .ret (ctxL k out s).2)
  | 0, i, out, s, hi, _, _, _ => by
    exact loop_done (by
      unfold dcode_Ctx_o_l0
      have : decide ((i : Int) < y3.1) = false := by simp; omega
      simp only [this, cond_false]
      rfl)
  | k + 1, i, out, s, hi, hO, h0, hl => by
    obtain ⟨h1, h2, h3, h4⟩ := part_props hO h0
    have hc : decide ((i : Int) < y3.1) = true := by simp; omega
    have hw : IntKind.u64.wrap ((i : Int) + 1) = ((i + 1 : Nat) : Int) := by rw [wU64 (by omega) (by omega)]; omega
    have hb : dcode_Ctx_o_l0 y3 ((i : Int), out, s.1, s.2) = cond (!decide ((partS s).2.2 = 0)) (pure (.done (.ret ([], (partS s).2)))) (pure (.next (((i + 1 : Nat) : Int), out ++ [(partS s).1], (partS s).2.1, (partS s).2.2))) := by
      unfold dcode_Ctx_o_l0
      simp only [hc, cond_true, part_eq hO, det_pure, pure_bind, N.Err_eq]
      rw [need_true (by simp; omega), hw]
    by_cases c : (partS s).2.2 = 0
    · have hlt := h4 c
      rw [decide_eq_true c, Bool.not_true, cond_false] at hb
      rw [loop_next hb, ctxL_next c]
      exact ctx_loop hn k (i + 1) _ (partS s).2 (by omega) h1 c (by simp; omega)
    · rw [decide_eq_false c, Bool.not_false, cond_true] at hb
      rw [loop_done hb, ctxL_bad c]
      rfl
theorem okC_of {c : List TPart} (h : ∀ p ∈ c, OkP p) (hl : c.length + C.totC c ≤ 1000000000) : C.Ok c := ⟨fun p hp => (h p hp).d0, by omega, by omega⟩
theorem Ctx_eq {s : RS} (hO : Ok s) : dcode_Ctx_o s.1 s.2 = pure (ctxS s) := by
  obtain ⟨h1, h2, h3⟩ := N.ok_num hO
  unfold dcode_Ctx_o ctxS
  rw [N.Num_eq hO, det_pure, pure_bind]
  have good : ∀ (c : List TPart) (t : RS), C.Ok c → ((det (ctx_Good c)).bind fun v37 => cond (!v37) ((det (pack_Reader_Fail_o 4 t.1 t.2)).bind fun y40 => pure (([] : List TPart), y40.1, y40.2)) (pure (c, t.1, t.2))) = pure (if decide (c = C.normC c) = true then (c, t) else ([], failS 4 t)) := fun c t hc => by
    rw [C.Good_eq c hc.sm, det_pure, pure_bind]
    cases decide (c = C.normC c) with
    | true => rfl
    | false => rw [Bool.not_false, cond_true, N.Fail_eq, det_pure, pure_bind]; rfl
  by_cases c2 : (numS s).2.2 = 0
  · have := ctx_loop (y3 := numS s) ⟨h2, h3⟩ (numS s).1.toNat 0 [] (numS s).2 (by omega) h1 c2 (by simp; have := h1.len; omega)
    rw [show ((0 : Nat) : Int) = 0 from rfl] at this
    rw [this, pure_bind]
    obtain ⟨q1, q2, q3, q4, _⟩ := ctxL_props (numS s).1.toNat [] (numS s).2 h1 c2 (by simp) (by simp [C.totC]; have := h1.len; omega)
    have qn := ctxL_nil (numS s).1.toNat [] (numS s).2
    generalize ctxL (numS s).1.toNat [] (numS s).2 = r at *
    obtain ⟨b, c, t⟩ := r
    simp only [] at *
    cases b with
    | false => rw [qn rfl]; rfl
    | true =>
      have hz := q4.1 rfl
      show ((det (ctx_Good c)).bind _) = _
      rw [good c t (okC_of q2 q3), if_pos rfl]
      cases hg : decide (c = C.normC c) with
      | true => rw [if_pos rfl, Bool.not_true, bad4_false, fin_ok hz]
      | false => rw [if_neg (by simp), Bool.not_false, fin_bad bad4_true]; rfl
  · have hz := num_zero c2
    rw [hz, loop_done (r := .brk ([], (numS s).2)) (by
      unfold dcode_Ctx_o_l0
      simp only [hz, show decide ((0 : Int) < 0) = false from rfl, cond_false]), pure_bind]
    show ((det (ctx_Good [])).bind _) = pure (if true = true then fin [] [] (bad4 (!decide (([] : List TPart) = C.normC [])) (numS s).2) else ([], (numS s).2))
    rw [good [] (numS s).2 C.ok_nil, if_pos rfl]
    have e : C.normC [] = [] := rfl
    rw [e]
    simp only [decide_true, if_true, Bool.not_true, bad4_false]
    rw [fin_bad c2]
variable {B : List Int} {a : Int} {s : RS}
open N (RS Ok numS uptoS failS endS OkB Sim)

def riseB : List TDot → Bool
  | [] => true
  | x :: r => (match r with | [] => true | y :: _ => ltDot x y) && riseB r
theorem cmp_ge (x y : TDot) : decide (0 ≤ V.cmpD x y) = !ltDot x y := by
  by_cases h : ltDot x y = true
  · have := V.cmpD_neg.2 h
    rw [h]; simp; omega
  · have h2 : ¬ V.cmpD x y < 0 := fun e => h (V.cmpD_neg.1 e)
    simp only [Bool.not_eq_true] at h
    rw [h]; simp; omega
theorem rRising_eq (l : List TDot) (hl : l.length ≤ 1000000000000) : r07_Rising l = pure (riseB l) := by
  unfold r07_Rising
  have key : ∀ (k i : Nat) (x : TDot) (r : List TDot), i + k = l.length → l.drop i = r → i ≠ 0 → l[i - 1]? = some x → loop (r07_Rising_l0 l) (i : Int) = pure (if riseB (x :: r) = true then .brk () else .ret false) := by
    intro k
    induction k with
    | zero =>
      intro i x r hi hr h1 hx
      have : r = [] := by rw [← hr]; exact List.drop_eq_nil_of_le (by omega)
      subst this
      exact loop_done (by
        unfold r07_Rising_l0
        have : decide ((i : Int) < (l.length : Int)) = false := by simp; omega
        simp only [this, cond_false]; rfl)
    | succ k ih =>
      intro i x r hi hr h1 hx
      have hlt : i < l.length := by omega
      have hr2 : r = l[i] :: l.drop (i + 1) := by rw [← hr]; exact List.drop_eq_getElem_cons hlt
      have hy := List.getElem?_eq_getElem hlt
      have hi1 : idx l (IntKind.i64.wrap ((i : Int) - 1)) = pure x := by
        rw [wI64 (by omega) (by omega)]
        exact idx_eq (by omega) (by rw [show ((i : Int) - 1).toNat = i - 1 by omega]; exact hx)
      have hb : r07_Rising_l0 l (i : Int) = cond (!ltDot x l[i]) (pure (.done (.ret false))) (pure (.next ((i + 1 : Nat) : Int))) := by
        unfold r07_Rising_l0
        have : decide ((i : Int) < (l.length : Int)) = true := by simp; omega
        simp only [this, cond_true, hi1, idx_nat hy, pure_bind, V.r07_Cmp_eq, det_pure, cmp_ge, wSucc (show i < 9223372036854775807 by omega)]
      rw [hr2]
      show _ = (pure (if (ltDot x l[i] && riseB (l[i] :: l.drop (i + 1))) = true then Ex.brk () else Ex.ret false) : M (Ex Unit Bool))
      cases c : ltDot x l[i] with
      | true =>
        rw [c] at hb
        rw [loop_next hb, Bool.true_and]
        exact ih (i + 1) l[i] _ (by omega) rfl (by omega) hy
      | false =>
        rw [c] at hb
        rw [loop_done hb]; rfl
  cases l with
  | nil =>
    rw [loop_done (r := .brk ()) (by unfold r07_Rising_l0; rfl)]; rfl
  | cons x r =>
    have := key r.length 1 x r (by simp; omega) rfl (by decide) rfl
    rw [show ((1 : Nat) : Int) = 1 from rfl] at this
    rw [this, pure_bind]
    cases riseB (x :: r) <;> rfl

theorem good_self {l : List TDot} (hs : Srt l) (h : ∀ d ∈ l, V.goodD d = true) : sortD (goods l) = l := by
  have e : goods l = l := List.filter_eq_self.2 h
  rw [e]; exact sort_self hs
def decC (b : List Int) : List TPart × Int := if (endS (ctxS (b, 0)).2).1 ≠ 0 then ([], (endS (ctxS (b, 0)).2).1) else ((ctxS (b, 0)).1, 0)
theorem Decode_eq {b : List Int} (hB : OkB b) : dcode_Decode b = pure (decC b) := by
  unfold dcode_Decode decC
  rw [N.New_eq b hB.len, det_pure, pure_bind, Ctx_eq hB.ok, det_pure, pure_bind, N.End_eq, det_pure, pure_bind]
  by_cases c : (endS (ctxS (b, 0)).2).1 = 0
  · rw [decide_eq_true c, Bool.not_true, cond_false, if_neg (by simp [c])]
  · rw [decide_eq_false c, Bool.not_false, cond_true, if_pos c]
open N (RS Ok numS uptoS failS endS OkB Sim)

theorem num_inv {s : RS} (hO : Ok s) (h : (numS s).2.2 = 0) : s.1 = N.encI (numS s).1 ++ (numS s).2.1 := by
  have h0 := num_ok h
  unfold numS at h ⊢
  rw [if_neg (by simp [h0])] at h ⊢
  by_cases c : (N.rdN s.1).2.2 = 0
  · rw [if_neg (by simp [c])]
    exact N.rdN_one hO.by_ c
  · rw [if_pos c] at h; exact absurd h (N.fail_bad c)
theorem upto_inv {s : RS} (hO : Ok s) {m : Int} (h : (uptoS m s).2.2 = 0) : s.1 = N.encI (uptoS m s).1 ++ (uptoS m s).2.1 := by
  obtain ⟨h1, h2⟩ := upto_ok h
  rw [h2]; exact num_inv hO h1
theorem dot_inv {s : RS} (hO : Ok s) (h : (dotS s).2.2 = 0) : s.1 = encD (dotS s).1 ++ (dotS s).2.1 := by
  obtain ⟨_, h1, h2, h3⟩ := dot_ok h
  have e1 := upto_inv hO h1
  have e2 := num_inv (N.ok_upto hO (m := 65535) (by decide)).1 h2
  rw [h3]
  show s.1 = (N.encI (uptoS 65535 s).1 ++ N.encI (numS (uptoS 65535 s).2).1) ++ _
  rw [List.append_assoc, ← e2]; exact e1
theorem dotsL_inv : ∀ (k : Nat) (out : List TDot) (s : RS), Ok s → s.2 = 0 → Srt out → (∀ d ∈ out, V.goodD d = true) → (dotsL k out s).2.2 = 0 → ∃ l, (dotsL k out s).1 = out ++ l ∧ l.length = k ∧ s.1 = l.flatMap encD ++ (dotsL k out s).2.1 ∧ Srt (out ++ l) ∧ (∀ d ∈ out ++ l, V.goodD d = true) ∧ ∀ d ∈ l, OkD d
  | 0, out, s, _, _, hs, hg, _ => ⟨[], by simp [dotsL], rfl, by simp [dotsL], by simpa using hs, by simpa using hg, by simp⟩
  | k + 1, out, s, hO, h0, hs, hg, h => by
    by_cases c : (dotsT out s).2 = 0
    · obtain ⟨c1, c2, c3⟩ := dotsT_ok c
      rw [dotsL_next c] at h ⊢
      have hgd := (dot_ok c2).1
      have hs2 : Srt (out ++ [(dotS s).1]) := by
        unfold Srt
        rw [List.pairwise_append]
        refine ⟨hs, by simp, fun a ha b hb => ?_⟩
        rw [List.mem_singleton.1 hb]
        rcases R.snoc_cases out with rfl | ⟨q, y, rfl⟩
        · simp at ha
        · have hy : ltDot y (dotS s).1 = true := by
            unfold lastGe at c1
            simp only [List.getLast?_append, List.getLast?_singleton, Option.some_or, cmp_ge] at c1
            simpa using c1
          rcases List.mem_append.1 ha with h5 | h5
          · exact lt_trans ((List.pairwise_append.1 hs).2.2 a h5 y (by simp)) hy
          · rw [List.mem_singleton.1 h5]; exact hy
      obtain ⟨l, e1, e2, e3, e4, e5, e6⟩ := dotsL_inv k _ _ (ok_dotsT hO out) c hs2 (fun d hd => by
        rcases List.mem_append.1 hd with h5 | h5
        · exact hg d h5
        · rw [List.mem_singleton.1 h5]; exact hgd) h
      refine ⟨(dotS s).1 :: l, by rw [e1]; simp, by simp [e2], ?_, by simpa using e4, by simpa using e5, fun d hd => ?_⟩
      · rw [List.flatMap_cons, List.append_assoc, ← e3, c3]
        exact dot_inv hO c2
      · rcases List.mem_cons.1 hd with rfl | h5
        · exact (ok_dot hO).2.1
        · exact e6 d h5
    · rw [dotsL_bad c] at h; exact absurd h c
theorem dots_inv {s : RS} (hO : Ok s) {most : Int} (h : (dotsS most s).2.2 = 0) : s.1 = encDs (dotsS most s).1 ++ (dotsS most s).2.1 ∧ Srt (dotsS most s).1 ∧ (∀ d ∈ (dotsS most s).1, V.goodD d = true ∧ OkD d) ∧ ((dotsS most s).1.length : Int) ≤ max most 0 := by
  obtain ⟨h1, h2, h3⟩ := N.ok_num hO
  unfold dotsS at h ⊢
  by_cases c : max most 0 < (numS s).1
  · rw [if_pos c] at h; exact absurd h (N.fail_bad (by decide))
  · rw [if_neg c] at h ⊢
    have c2 : (numS s).2.2 = 0 := Classical.byContradiction fun c2 => by
      rw [num_zero c2] at h; exact c2 h
    obtain ⟨l, e1, e2, e3, e4, e5, e6⟩ := dotsL_inv _ [] _ h1 c2 List.Pairwise.nil (by simp) h
    rw [List.nil_append] at e1 e4 e5
    rw [e1]
    refine ⟨?_, e4, fun d hd => ⟨e5 d hd, e6 d hd⟩, by omega⟩
    rw [encDs, good_self e4 e5, List.append_assoc, ← e3, e2, Int.toNat_of_nonneg h2]
    exact num_inv hO c2
theorem dots_bad {s : RS} {most : Int} (h : (dotsS most s).2.2 ≠ 0) : (dotsS most s).1 = [] := by
  have hL : ∀ (k : Nat) (out : List TDot) (s : RS), s.2 = 0 ∨ out = [] → (dotsL k out s).2.2 ≠ 0 → (dotsL k out s).1 = [] := by
    intro k
    induction k with
    | zero =>
      intro out s h1 h2
      rcases h1 with h1 | h1
      · exact absurd h1 h2
      · exact h1
    | succ k ih =>
      intro out s _ h2
      by_cases c : (dotsT out s).2 = 0
      · rw [dotsL_next c] at h2 ⊢; exact ih _ _ (.inl c) h2
      · rw [dotsL_bad c]
  unfold dotsS at h ⊢
  split at h
  · rename_i c; rw [if_pos c]
  · rename_i c; rw [if_neg c]; exact hL _ _ _ (.inr rfl) h
end Go.Ep.M.D

