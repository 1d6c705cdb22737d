/- The plain laws of vectors, runs. -/
import Derived.Test.YtacnidaafcfgiaaDCq
import Derived.Test.YtacnidaafcfgiaaDNq
namespace Go.Ep.M.D
open Go

theorem lt_iff {a b : TDot} : ltDot a b = true ↔ a.dev < b.dev ∨ (a.dev = b.dev ∧ a.n < b.n) := by simp [ltDot]
theorem lt_irr (a : TDot) : ltDot a a = false := by
  cases h : ltDot a a with
  | false => rfl
  | true => rw [lt_iff] at h; omega
theorem lt_trans {a b c : TDot} (h1 : ltDot a b = true) (h2 : ltDot b c = true) : ltDot a c = true := by rw [lt_iff] at *; omega
theorem lt_asym {a b : TDot} (h : ltDot a b = true) : ltDot b a = false := by
  cases h2 : ltDot b a with
  | false => rfl
  | true => rw [lt_iff] at h h2; omega
theorem lt_tri {a b : TDot} (h1 : ltDot a b = false) (h2 : ltDot b a = false) : a = b := by
  have h3 : ¬ (ltDot a b = true) := by simp [h1]
  have h4 : ¬ (ltDot b a = true) := by simp [h2]
  rw [lt_iff] at h3 h4
  cases a; cases b
  simp only [TDot.mk.injEq] at *
  omega
abbrev Srt (l : List TDot) : Prop := l.Pairwise fun x y => ltDot x y = true
theorem srt_ext : ∀ {l l' : List TDot}, Srt l → Srt l' → (∀ d, d ∈ l ↔ d ∈ l') → l = l'
  | [], [], _, _, _ => rfl
  | [], y :: r, _, _, h => by have := (h y).2 (by simp); simp at this
  | x :: r, [], _, _, h => by have := (h x).1 (by simp); simp at this
  | x :: r, y :: t, h1, h2, h => by
    have hx := (h x).1 (by simp)
    have hy := (h y).2 (by simp)
    have e : x = y := by
      rcases List.mem_cons.1 hx with e | hx
      · exact e
      · rcases List.mem_cons.1 hy with e | hy
        · exact e.symm
        · have a1 := (List.pairwise_cons.1 h2).1 x hx
          have a2 := (List.pairwise_cons.1 h1).1 y hy
          rw [lt_asym a1] at a2; cases a2
    subst e
    congr 1
    refine srt_ext (List.pairwise_cons.1 h1).2 (List.pairwise_cons.1 h2).2 fun d => ?_
    have h3 := h d
    simp only [List.mem_cons] at h3
    constructor
    · intro hd
      rcases h3.1 (.inr hd) with e | h4
      · have := (List.pairwise_cons.1 h1).1 d hd
        rw [e, lt_irr] at this; cases this
      · exact h4
    · intro hd
      rcases h3.2 (.inr hd) with e | h4
      · have := (List.pairwise_cons.1 h2).1 d hd
        rw [e, lt_irr] at this; cases this
      · exact h4

def insD (s : List TDot) (d : TDot) : List TDot := (s.filter fun x => ltDot x d) ++ [d] ++ (s.filter fun x => ltDot d x)
theorem ins_mem {s : List TDot} {d x : TDot} : x ∈ insD s d ↔ x = d ∨ x ∈ s := by
  simp only [insD, List.mem_append, List.mem_filter, List.mem_singleton]
  constructor
  · rintro ((h | h) | h)
    · exact .inr h.1
    · exact .inl h
    · exact .inr h.1
  · rintro (h | h)
    · exact .inl (.inr h)
    · cases h1 : ltDot x d with
      | true => exact .inl (.inl ⟨h, rfl⟩)
      | false =>
        cases h2 : ltDot d x with
        | true => exact .inr ⟨h, rfl⟩
        | false => exact .inl (.inr (lt_tri h1 h2))
theorem ins_srt {s : List TDot} (h : Srt s) (d : TDot) : Srt (insD s d) := by
  unfold Srt insD
  rw [List.pairwise_append, List.pairwise_append]
  refine ⟨⟨h.filter _, by simp, fun a ha b hb => ?_⟩, h.filter _, fun a ha b hb => ?_⟩
  · rw [List.mem_singleton.1 hb]; exact (List.mem_filter.1 ha).2
  · have hb := (List.mem_filter.1 hb).2
    rcases List.mem_append.1 ha with ha | ha
    · exact lt_trans (List.mem_filter.1 ha).2 hb
    · rw [List.mem_singleton.1 ha]; exact hb
theorem ins_len (s : List TDot) (d : TDot) : (insD s d).length ≤ s.length + 1 := by
  unfold insD
  have h : ∀ l : List TDot, (l.filter fun x => ltDot x d).length + (l.filter fun x => ltDot d x).length ≤ l.length := by
    intro l
    induction l with
    | nil => simp
    | cons x r ih =>
      cases h1 : ltDot x d with
      | true => simp [h1, lt_asym h1]; omega
      | false =>
        cases h2 : ltDot d x with
        | true => simp [h1, h2]; omega
        | false => simp [h1, h2]; omega
  have := h s
  simp; omega
def sortD (l : List TDot) : List TDot := l.foldl insD []
theorem sort_gen : ∀ (l s : List TDot), Srt s → Srt (l.foldl insD s) ∧ (∀ d, d ∈ l.foldl insD s ↔ d ∈ s ∨ d ∈ l) ∧ (l.foldl insD s).length ≤ s.length + l.length
  | [], s, h => ⟨h, by simp, by simp⟩
  | x :: r, s, h => by
    obtain ⟨h1, h2, h3⟩ := sort_gen r (insD s x) (ins_srt h x)
    refine ⟨h1, fun d => ?_, ?_⟩
    · rw [List.foldl_cons, h2 d, ins_mem, List.mem_cons]
      constructor
      · rintro ((h | h) | h)
        · exact .inr (.inl h)
        · exact .inl h
        · exact .inr (.inr h)
      · rintro (h | h | h)
        · exact .inl (.inr h)
        · exact .inl (.inl h)
        · exact .inr h
    · have := ins_len s x
      rw [List.foldl_cons, List.length_cons]; omega
theorem sort_srt (l : List TDot) : Srt (sortD l) := (sort_gen l [] List.Pairwise.nil).1
theorem sort_mem {l : List TDot} {d : TDot} : d ∈ sortD l ↔ d ∈ l := by simpa [sortD] using (sort_gen l [] List.Pairwise.nil).2.1 d
theorem sort_len (l : List TDot) : (sortD l).length ≤ l.length := by simpa [sortD] using (sort_gen l [] List.Pairwise.nil).2.2
theorem sort_self {l : List TDot} (h : Srt l) : sortD l = l := srt_ext (sort_srt l) h fun _ => sort_mem
theorem rPut_eq (s : List TDot) (d : TDot) (h : s.length ≤ 1000000000000) : r07_Put s d = pure (insD s d) := V.r07_Put_eq s d h

def ddS (out : List TDot) (x : TDot) : List TDot := if out.getLast? = some x then out else out ++ [x]
def dd (l : List TDot) : List TDot := l.foldl ddS []
theorem dd_snoc (l : List TDot) (x : TDot) : dd (l ++ [x]) = ddS (dd l) x := by simp [dd]
theorem dd_last (l : List TDot) : (dd l).getLast? = l.getLast? := by
  rcases R.snoc_cases l with rfl | ⟨r, y, rfl⟩
  · rfl
  · rw [dd_snoc]
    unfold ddS
    by_cases c : (dd r).getLast? = some y
    · rw [if_pos c, c]; simp
    · rw [if_neg c]; simp
theorem dd_len (l : List TDot) : (dd l).length ≤ l.length := by
  have : ∀ (l s : List TDot), (l.foldl ddS s).length ≤ s.length + l.length := by
    intro l
    induction l with
    | nil => intro s; simp
    | cons x r ih =>
      intro s
      have h1 := ih (ddS s x)
      have h2 : (ddS s x).length ≤ s.length + 1 := by unfold ddS; split <;> simp
      rw [List.foldl_cons, List.length_cons]; omega
  simpa [dd] using this l []
theorem dd_mem {l : List TDot} {d : TDot} : d ∈ dd l ↔ d ∈ l := by
  have : ∀ (l s : List TDot), d ∈ l.foldl ddS s ↔ d ∈ s ∨ d ∈ l := by
    intro l
    induction l with
    | nil => intro s; simp
    | cons x r ih =>
      intro s
      rw [List.foldl_cons, ih]
      have h2 : d ∈ ddS s x ↔ d ∈ s ∨ d = x := by
        unfold ddS
        split
        · rename_i h
          exact ⟨.inl, fun h3 => h3.elim id fun e => by rw [e]; exact List.mem_of_getLast? h⟩
        · simp
      rw [h2, List.mem_cons]
      exact or_assoc
  simpa [dd] using this l []
theorem dd_srt {l : List TDot} (h : l.Pairwise fun x y => ltDot y x = false) : Srt (dd l) := by
  have : ∀ (n : Nat) (l : List TDot), l.length = n → (l.Pairwise fun x y => ltDot y x = false) → Srt (dd l) := by
    intro n
    induction n with
    | zero => intro l hl _; have := List.eq_nil_of_length_eq_zero hl; subst this; exact List.Pairwise.nil
    | succ n ih =>
      intro l hl h
      rcases R.snoc_cases l with rfl | ⟨r, y, rfl⟩
      · simp at hl
      · rw [List.pairwise_append] at h
        have hr := ih r (by simpa using hl) h.1
        rw [dd_snoc]
        unfold ddS
        split
        · exact hr
        · rename_i hne
          unfold Srt
          rw [List.pairwise_append]
          refine ⟨hr, by simp, fun a ha b hb => ?_⟩
          rw [List.mem_singleton.1 hb]
          have ha' := dd_mem.1 ha
          have h1 := h.2.2 a ha' y (by simp)
          cases h2 : ltDot a y with
          | true => rfl
          | false =>
            exfalso
            have e := lt_tri h2 h1
            subst e
            rw [dd_last] at hne
            rcases R.snoc_cases r with rfl | ⟨q, z, rfl⟩
            · simp at ha'
            · have hz : ltDot a z = false := h.2.2 z (by simp) a (by simp)
              rcases List.mem_append.1 ha' with h5 | h5
              · have h6 : ltDot z a = false := by
                  have := (List.pairwise_append.1 h.1).2.2 a h5 z (by simp); exact this
                have := lt_tri hz h6
                subst this
                simp at hne
              · rw [List.mem_singleton.1 h5] at hne; simp at hne
  exact this l.length l rfl h

theorem Clone_eq (l : List TDot) (h : l.length ≤ 1000000000000) : slices_Clone_sl_Dot_Dot l = pure l := by
  unfold slices_Clone_sl_Dot_Dot
  refine eq_pure ⟨⟨false, fun h => by cases h⟩, fun b hb => ?_⟩
  cases b with
  | true => show ([] : List TDot) = l; exact (hb rfl).symm
  | false =>
    show _ ∧ ([] ++ l = l)
    exact ⟨by simp; omega, List.nil_append l⟩
theorem dotEq (x y : TDot) : (decide (x.dev = y.dev) && decide (x.n = y.n)) = decide (x = y) := by
  cases x; cases y; simp [Bool.decide_and]
theorem take_snoc {l : List TDot} {m : Nat} {x : TDot} (h : l[m]? = some x) : l.take (m + 1) = l.take m ++ [x] := by
  rw [List.take_add_one, h]; rfl
theorem last_take {l : List TDot} {m : Nat} {x : TDot} (h : l[m]? = some x) : (l.take (m + 1)).getLast? = some x := by rw [take_snoc h]; simp
theorem inner_loop (s : List TDot) (k : Nat) (hk : k < s.length) (hl : s.length ≤ 1000000000000) : ∀ (d k2 kk : Nat) (v : List TDot), k + k2 + d = s.length → 1 ≤ k2 → v.length = s.length → kk + 1 ≤ k + k2 → v.take kk = dd (s.take (k + k2)) → v.drop (k + k2 - 1) = s.drop (k + k2 - 1) →
    ∃ (kk' : Nat) (v' : List TDot), loop (slices_Compact_sl_Dot_Dot_o_l0 s (k : Int)) ((kk : Int), (k2 : Int), v) = pure ((kk' : Int), v') ∧ v'.length = s.length ∧ kk' ≤ s.length ∧ v'.take kk' = dd s
  | 0, k2, kk, v, hd, h1, hv, hkk, ht, _ => by
    refine ⟨kk, v, loop_done ?_, hv, by omega, by rw [ht, show k + k2 = s.length by omega, List.take_length]⟩
    unfold slices_Compact_sl_Dot_Dot_o_l0
    have : decide ((k2 : Int) < (((s.length - (k : Int).toNat : Nat)) : Int)) = false := by simp; omega
    simp only [this, cond_false]
  | d + 1, k2, kk, v, hd, h1, hv, hkk, ht, hdr => by
    have hvg : ∀ j, k + k2 - 1 ≤ j → v[j]? = s[j]? := fun j hj => by
      have := congrArg (fun l => l[j - (k + k2 - 1)]?) hdr
      simp only [List.getElem?_drop] at this
      rw [show k + k2 - 1 + (j - (k + k2 - 1)) = j by omega] at this; exact this
    obtain ⟨x, hx⟩ : ∃ x, s[k + k2]? = some x := ⟨_, List.getElem?_eq_getElem (by omega)⟩
    obtain ⟨y, hy⟩ : ∃ y, s[k + k2 - 1]? = some y := ⟨_, List.getElem?_eq_getElem (by omega)⟩
    have hlast : (dd (s.take (k + k2))).getLast? = some y := by
      rw [dd_last]
      have := last_take hy
      rwa [show k + k2 - 1 + 1 = k + k2 by omega] at this
    have hdd : dd (s.take (k + k2 + 1)) = if y = x then dd (s.take (k + k2)) else dd (s.take (k + k2)) ++ [x] := by
      rw [take_snoc hx, dd_snoc]
      unfold ddS
      rw [hlast]
      by_cases c : y = x
      · rw [if_pos c, if_pos (by rw [c])]
      · rw [if_neg c, if_neg (by intro e; exact c (Option.some.inj e))]
    have hb : slices_Compact_sl_Dot_Dot_o_l0 s (k : Int) ((kk : Int), (k2 : Int), v) = pure (.next (if y = x then ((kk : Int), ((k2 + 1 : Nat) : Int), v) else (((kk + 1 : Nat) : Int), ((k2 + 1 : Nat) : Int), v.set kk x))) := by
      unfold slices_Compact_sl_Dot_Dot_o_l0
      have hc : decide ((k2 : Int) < (((s.length - (k : Int).toNat : Nat)) : Int)) = true := by simp; omega
      have e1 : IntKind.i64.wrap ((k2 : Int) - 1) = ((k2 - 1 : Nat) : Int) := by rw [wI64 (by omega) (by omega)]; omega
      have i1 : idx v ((((k : Int).toNat + (k2 : Int).toNat : Nat)) : Int) = pure x := idx_nat (by rw [Int.toNat_natCast, Int.toNat_natCast, hvg _ (by omega)]; exact hx)
      have i2 : idx v ((((k : Int).toNat + (((k2 - 1 : Nat) : Int)).toNat : Nat)) : Int) = pure y := idx_nat (by rw [Int.toNat_natCast, Int.toNat_natCast, hvg _ (by omega), show k + (k2 - 1) = k + k2 - 1 by omega]; exact hy)
      obtain ⟨z, hz⟩ : ∃ z, v[kk]? = some z := ⟨_, List.getElem?_eq_getElem (by omega)⟩
      have i3 : idx v (kk : Int) = pure z := idx_nat hz
      simp only [hc, cond_true, e1]
      rw [need_true (by simp; omega), i1, pure_bind, need_true (by simp; omega), i2, pure_bind]
      simp only [dotEq]
      by_cases c : y = x
      · have c1 : decide (x = y) = true := decide_eq_true c.symm
        simp only [c1, Bool.not_true, cond_false, pure_bind, wSucc (show k2 < 9223372036854775807 by omega), if_pos c]
      · have c1 : decide (x = y) = false := decide_eq_false (fun e => c e.symm)
        simp only [c1, Bool.not_false, cond_true, if_neg c]
        rw [need_true (by simp; omega), i3]
        simp only [pure_bind, wSucc (show k2 < 9223372036854775807 by omega), wSucc (show kk < 9223372036854775807 by omega), Int.toNat_natCast]
    by_cases c : y = x
    · rw [if_pos c] at hb hdd
      rw [loop_next hb]
      refine inner_loop s k hk hl d (k2 + 1) kk v (by omega) (by omega) hv (by omega) (by rw [ht, ← hdd]; rfl) ?_
      have := congrArg (List.drop 1) hdr
      rw [List.drop_drop, List.drop_drop, show k + k2 - 1 + 1 = k + (k2 + 1) - 1 by omega] at this
      exact this
    · rw [if_neg c] at hb hdd
      rw [loop_next hb]
      refine inner_loop s k hk hl d (k2 + 1) (kk + 1) (v.set kk x) (by omega) (by omega) (by simpa using hv) (by omega) ?_ ?_
      · have h5 : (v.set kk x)[kk]? = some x := by rw [List.getElem?_set]; simp; omega
        rw [take_snoc h5, List.take_set, List.set_eq_of_length_le (by rw [List.length_take]; omega), ht, ← hdd]; rfl
      · rw [List.drop_set, if_pos (by omega)]
        have := congrArg (List.drop 1) hdr
        rw [List.drop_drop, List.drop_drop, show k + k2 - 1 + 1 = k + (k2 + 1) - 1 by omega] at this
        exact this
theorem Compact_eq (s : List TDot) (hl : s.length ≤ 1000000000000) : slices_Compact_sl_Dot_Dot_o s = pure (dd s) := by
  unfold slices_Compact_sl_Dot_Dot_o
  by_cases h2 : s.length < 2
  · have : decide ((s.length : Int) < 2) = true := by simp; omega
    rw [this, cond_true]
    match s, h2 with
    | [], _ => rfl
    | [x], _ => rfl
  · have : decide ((s.length : Int) < 2) = false := by simp; omega
    rw [this, cond_false]
    have key : ∀ d k, k + d = s.length → 1 ≤ k → dd (s.take k) = s.take k → (loop (slices_Compact_sl_Dot_Dot_o_l1 s) (k : Int)).bind (exk fun _ => pure s) = pure (dd s) := by
      intro d
      induction d with
      | zero =>
        intro k hk h1 hd
        rw [loop_done (r := .brk ()) (by
          unfold slices_Compact_sl_Dot_Dot_o_l1
          have : decide ((k : Int) < (s.length : Int)) = false := by simp; omega
          simp only [this, cond_false])]
        rw [show k = s.length by omega, List.take_length] at hd
        show pure s = pure (dd s)
        rw [hd]
      | succ d ih =>
        intro k hk h1 hd
        obtain ⟨x, hx⟩ : ∃ x, s[k]? = some x := ⟨_, List.getElem?_eq_getElem (by omega)⟩
        obtain ⟨y, hy⟩ : ∃ y, s[k - 1]? = some y := ⟨_, List.getElem?_eq_getElem (by omega)⟩
        have hlast : (dd (s.take k)).getLast? = some y := by
          rw [dd_last]
          have := last_take hy
          rwa [show k - 1 + 1 = k by omega] at this
        have hc : decide ((k : Int) < (s.length : Int)) = true := by simp; omega
        have i1 : idx s (k : Int) = pure x := idx_nat hx
        have i2 : idx s (IntKind.i64.wrap ((k : Int) - 1)) = pure y := by
          rw [wI64 (by omega) (by omega)]
          exact idx_eq (by omega) (by rw [show ((k : Int) - 1).toNat = k - 1 by omega]; exact hy)
        by_cases c : x = y
        · subst c
          obtain ⟨kk, v, h5, h6, h7, h8⟩ := inner_loop s k (by omega) hl d 1 k s (by omega) (by omega) rfl (by omega) (by
            rw [take_snoc hx, dd_snoc, ddS, if_pos hlast, hd]) (by rw [show k + 1 - 1 = k by omega])
          rw [loop_done (r := .ret (dd s)) (by
            unfold slices_Compact_sl_Dot_Dot_o_l1
            simp only [hc, cond_true, i1, i2, pure_bind, dotEq, decide_true]
            rw [need_true (by omega), show (1 : Int) = ((1 : Nat) : Int) from rfl, h5, pure_bind]
            simp only []
            rw [need_true (by omega), need_true (by simp; omega), need_true (by
              simp only [List.length_append, List.length_take, List.length_replicate, List.length_drop, Int.toNat_natCast]; omega), pure_bind, exk_ret]
            congr 3
            rw [Int.toNat_natCast, List.append_assoc, List.take_append_of_le_length (by rw [List.length_take]; omega), List.take_take, Nat.min_self, h8])]
          rfl
        · have c1 : decide (x = y) = false := decide_eq_false c
          rw [loop_next (s' := ((k + 1 : Nat) : Int)) (by
            unfold slices_Compact_sl_Dot_Dot_o_l1
            simp only [hc, cond_true, i1, i2, pure_bind, dotEq, c1, cond_false, exk_brk, wSucc (show k < 9223372036854775807 by omega)])]
          refine ih (k + 1) (by omega) (by omega) ?_
          rw [take_snoc hx, dd_snoc, ddS, if_neg (by rw [hlast]; intro e; exact c (Option.some.inj e).symm), hd]
    have := key (s.length - 1) 1 (by omega) (by omega) (by
      obtain ⟨x, r, rfl⟩ : ∃ x r, s = x :: r := by
        cases s with
        | nil => simp at h2
        | cons x r => exact ⟨x, r, rfl⟩
      rfl)
    exact this
theorem srt_wp {l : List TDot} {Q : List TDot → Prop} (h : ∀ s, s.Perm l → (s.Pairwise fun x y => ltDot y x = false) → Q s) : (srt ltDot l).wp Q := by
  refine ⟨⟨l.mergeSort (fun x y => !ltDot y x), List.mergeSort_perm _ _, ?_⟩, fun s ⟨h1, h2⟩ => h s h1 h2⟩
  refine (List.pairwise_mergeSort (fun a b c h1 h2 => ?_) (fun a b => ?_) l).imp fun {x y} h => by simpa using h
  · simp only [Bool.not_eq_true'] at h1 h2 ⊢
    cases h3 : ltDot c a with
    | false => rfl
    | true =>
      rw [lt_iff] at h3
      have h4 : ¬ (ltDot b a = true) := by simp [h1]
      have h5 : ¬ (ltDot c b = true) := by simp [h2]
      rw [lt_iff] at h4 h5
      omega
  · cases h1 : ltDot b a with
    | false => rfl
    | true => rw [lt_asym h1]; rfl
theorem Sort_eq (l : List TDot) (h : l.length ≤ 1000000000000) : dot_Sort l = pure (sortD l) := by
  unfold dot_Sort
  rw [Clone_eq l h, det_pure, pure_bind, need_true (by omega)]
  refine eq_pure (srt_wp fun s hs hp => ?_)
  show (bind (det (slices_Compact_sl_Dot_Dot_o s)) fun y8 => pure y8).wp _
  rw [Compact_eq s (by rw [hs.length_eq]; exact h), det_pure, pure_bind]
  exact srt_ext (dd_srt hp) (sort_srt l) fun d => by rw [dd_mem, sort_mem]; exact hs.mem_iff

theorem cmp16_eq (x y : Int) : cmp_Compare_uint16 x y = pure (R.cmp3 x y) := by
  unfold cmp_Compare_uint16 cmp_isNaN_uint16 R.cmp3
  simp only [decide_true, Bool.not_true, det_pure, pure_bind, cond_false, cond_dec]
  split
  · rfl
  · split <;> rfl
theorem Cmp_eq (a b : TDot) : dot_Cmp a b = pure (V.cmpD a b) := by
  unfold dot_Cmp
  rw [cmp16_eq, det_pure, pure_bind, R.cmp3_eq, det_pure, pure_bind]
  unfold V.cmpD R.cmp3
  cases a with | mk d n => cases b with | mk e m =>
  simp only [TDot.mk.injEq, ltDot]
  by_cases h1 : d < e
  · have : ¬ d = e := by omega
    simp [h1, this]
  · by_cases h2 : e < d
    · have : ¬ d = e := by omega
      simp [h1, h2, this]
    · have h3 : d = e := by omega
      subst h3
      by_cases h4 : n < m
      · have : ¬ n = m := by omega
        simp [h4, this]
      · by_cases h5 : m < n
        · have : ¬ n = m := by omega
          simp [h4, h5, this]
        · have : n = m := by omega
          simp [this]


/-- A loop that puts bytes behind, for each element some. -/
theorem loopApp {σ ρ ε : Type} {body : σ → M (Step σ ρ)} (l : List ε) (f : ε → List Int) (row : List Int) (N : Nat) (mk : Nat → List Int → σ) (g : List Int → M ρ) (hN : row.length + (l.flatMap f).length ≤ N)
    (h1 : ∀ (i : Nat) (x : ε) (out : List Int), l[i]? = some x → i < l.length → out.length + (f x).length ≤ N → body (mk i out) = pure (.next (mk (i + 1) (out ++ f x))))
    (h2 : ∀ out, body (mk l.length out) = (g out).bind fun r => pure (.done r)) : loop body (mk 0 row) = g (row ++ l.flatMap f) := by
  have key : ∀ (k i : Nat) (out : List Int), i + k = l.length → out.length + ((l.drop i).flatMap f).length ≤ N → loop body (mk i out) = g (out ++ (l.drop i).flatMap f) := by
    intro k
    induction k with
    | zero =>
      intro i out hi _
      have : i = l.length := by omega
      subst this
      rw [loop_eq, h2, List.drop_length]
      simp only [List.flatMap_nil, List.append_nil]
      rfl
    | succ k ih =>
      intro i out hi hl
      have hlt : i < l.length := by omega
      rw [List.drop_eq_getElem_cons hlt, List.flatMap_cons, List.length_append] at hl
      rw [loop_next (h1 i l[i] out (List.getElem?_eq_getElem hlt) hlt (by omega)), ih (i + 1) _ (by omega) (by rw [List.length_append]; omega), List.drop_eq_getElem_cons hlt, List.flatMap_cons, List.append_assoc]
  simpa using key l.length 0 row (by omega) (by simpa using hN)
theorem flat_len {ε : Type} (l : List ε) (f : ε → List Int) (k : Nat) (h : ∀ x ∈ l, (f x).length ≤ k) : (l.flatMap f).length ≤ k * l.length := by
  induction l with
  | nil => simp
  | cons x r ih =>
    have h1 := h x (by simp)
    have h2 := ih fun y hy => h y (by simp [hy])
    rw [List.flatMap_cons, List.length_append, List.length_cons, Nat.mul_add]; omega

structure OkD (d : TDot) : Prop where
  d0 : 0 ≤ d.dev
  d1 : d.dev ≤ 65535
  n0 : 0 ≤ d.n
  n1 : d.n ≤ 18446744073709551615
def encD (d : TDot) : List Int := N.encI d.dev ++ N.encI d.n
theorem encD_len {d : TDot} (h : OkD d) : (encD d).length ≤ 18 := by
  have h1 := N.encI_len (v := d.dev) (by have := h.d1; omega)
  have h2 := N.encI_len (v := d.n) h.n1
  rw [encD, List.length_append]; omega
theorem PutDot_eq {d : TDot} (h : OkD d) (row : List Int) (hr : row.length ≤ 1000000000000) : dcode_PutDot_o d row = pure (row ++ encD d) := by
  have h1 := N.encI_len (v := d.dev) (by have := h.d1; omega)
  unfold dcode_PutDot_o
  rw [wU64 h.d0 (by have := h.d1; omega), N.WNum_eq row h.d0 (by have := h.d1; omega) (by omega), det_pure, pure_bind, N.WNum_eq _ h.n0 h.n1 (by rw [List.length_append]; omega), det_pure, pure_bind, encD, List.append_assoc]
theorem rPutDot_eq {d : TDot} (h : OkD d) (row : List Int) (hr : row.length ≤ 1000000000000) : r15_PutDot row d = pure (row ++ encD d) := by
  have h1 := N.encI_len (v := d.dev) (by have := h.d1; omega)
  unfold r15_PutDot
  rw [wU64 h.d0 (by have := h.d1; omega), N.rAppend_eq row h.d0 (by have := h.d1; omega) (by omega), det_pure, pure_bind, N.rAppend_eq _ h.n0 h.n1 (by rw [List.length_append]; omega), det_pure, pure_bind, encD, List.append_assoc]
def goods (l : List TDot) : List TDot := l.filter V.goodD
def encDs (l : List TDot) : List Int := N.encI (sortD (goods l)).length ++ (sortD (goods l)).flatMap encD
theorem good_loop (l : List TDot) (hl : l.length ≤ 1000000000000) : loop (dcode_PutDots_o_l0 l) (0, []) = pure (goods l) := by
  have := loopL (body := dcode_PutDots_o_l0 l) l (fun i t => ((i : Int), t)) (fun t d => if V.goodD d = true then t ++ [d] else t) (fun t => pure t) (fun i t => t.length ≤ i) (fun i x t hx hi hI => by
    have hd : decide ((i : Int) < (l.length : Int)) = true := by simpa using hi
    refine ⟨?_, by split
                   · simp; omega
                   · omega⟩
    unfold dcode_PutDots_o_l0
    simp only [hd, cond_true, idx_nat hx, pure_bind, V.dot_Good_eq, det_pure, wSucc (show i < 9223372036854775807 by omega)]
    by_cases c : V.goodD x = true
    · rw [c, cond_true, need_true (by simp; omega), pure_bind, if_pos rfl]
    · simp only [Bool.not_eq_true] at c
      rw [c, cond_false, pure_bind]; rfl) (fun t _ => by
    unfold dcode_PutDots_o_l0
    simp [pure_bind]) [] (by simp)
  rw [show (0 : Int) = ((0 : Nat) : Int) from rfl, this]
  congr 1
  have key : ∀ (l t : List TDot), l.foldl (fun t d => if V.goodD d = true then t ++ [d] else t) t = t ++ goods l := by
    intro l
    induction l with
    | nil => intro t; simp [goods]
    | cons x r ih =>
      intro t
      rw [List.foldl_cons, ih]
      unfold goods
      by_cases c : V.goodD x = true
      · rw [if_pos c, List.filter_cons_of_pos c, List.append_assoc]; rfl
      · rw [if_neg c, List.filter_cons_of_neg c]
  simpa using key l []
theorem good_mem {l : List TDot} {d : TDot} : d ∈ sortD (goods l) ↔ d ∈ l ∧ V.goodD d = true := by rw [sort_mem, goods, List.mem_filter]
theorem good_len (l : List TDot) : (sortD (goods l)).length ≤ l.length := Nat.le_trans (sort_len _) (List.length_filter_le _ _)
theorem okD_good {l : List TDot} (h : ∀ d ∈ l, OkD d) : ∀ d ∈ sortD (goods l), OkD d := fun d hd => h d (good_mem.1 hd).1
theorem encDs_len {l : List TDot} (h : ∀ d ∈ l, OkD d) (hl : l.length ≤ 1000000000000) : (encDs l).length ≤ 9 + 18 * l.length := by
  have h1 := N.encI_len (v := ((sortD (goods l)).length : Int)) (by have := good_len l; omega)
  have h2 := flat_len (sortD (goods l)) encD 18 fun x hx => encD_len (okD_good h x hx)
  have h3 := good_len l
  rw [encDs, List.length_append]; omega
theorem PutDots_eq {l : List TDot} (h : ∀ d ∈ l, OkD d) (hl : l.length ≤ 1000000000) (row : List Int) (hr : row.length ≤ 100000000000) : dcode_PutDots_o l row = pure (row ++ encDs l) := by
  have h3 := good_len l
  have h1 := N.encI_len (v := ((sortD (goods l)).length : Int)) (by omega)
  have h2 := flat_len (sortD (goods l)) encD 18 fun x hx => encD_len (okD_good h x hx)
  unfold dcode_PutDots_o
  rw [good_loop l (by omega), pure_bind, Sort_eq _ (by have := List.length_filter_le V.goodD l; unfold goods; omega), det_pure, pure_bind, wU64 (by omega) (by omega), N.WNum_eq row (by omega) (by omega) (by omega), det_pure, pure_bind]
  have := loopApp (body := dcode_PutDots_o_l1 (sortD (goods l))) (sortD (goods l)) encD (row ++ N.encI ((sortD (goods l)).length : Int)) 1000000000000 (fun i out => ((i : Int), out)) (fun t => pure t) (by rw [List.length_append]; omega) (fun i x out hx hi ho => by
    have hd : decide ((i : Int) < ((sortD (goods l)).length : Int)) = true := by simpa using hi
    unfold dcode_PutDots_o_l1
    simp only [hd, cond_true, idx_nat hx, pure_bind, PutDot_eq (okD_good h x (List.mem_of_getElem? hx)) out (by omega), det_pure, wSucc (show i < 9223372036854775807 by omega)]) (fun out => by
    unfold dcode_PutDots_o_l1
    simp [pure_bind])
  rw [show (0 : Int) = ((0 : Nat) : Int) from rfl, this, encDs, List.append_assoc]
theorem rgood_loop (l : List TDot) (hl : l.length ≤ 1000000000000) : loop (r15_PutDots_l0 l) ([], 0) = pure (sortD (goods l)) := by
  have := loopL (body := r15_PutDots_l0 l) l (fun i t => (t, (i : Int))) (fun t d => if V.goodD d = true then insD t d else t) (fun t => pure t) (fun i t => t.length ≤ i) (fun i x t hx hi hI => by
    have hd : decide ((i : Int) < (l.length : Int)) = true := by simpa using hi
    refine ⟨?_, by split
                   · have := ins_len t x; omega
                   · omega⟩
    unfold r15_PutDots_l0
    simp only [hd, cond_true, idx_nat hx, pure_bind, V.r07_Good_eq, det_pure, wSucc (show i < 9223372036854775807 by omega)]
    by_cases c : V.goodD x = true
    · rw [c, cond_true, rPut_eq t x (by omega), det_pure, pure_bind, pure_bind, if_pos rfl]
    · simp only [Bool.not_eq_true] at c
      rw [c, cond_false, pure_bind]; rfl) (fun t _ => by
    unfold r15_PutDots_l0
    simp [pure_bind]) [] (by simp)
  rw [show (0 : Int) = ((0 : Nat) : Int) from rfl, this]
  congr 1
  have key : ∀ (l t : List TDot), l.foldl (fun t d => if V.goodD d = true then insD t d else t) t = (goods l).foldl insD t := by
    intro l
    induction l with
    | nil => intro t; rfl
    | cons x r ih =>
      intro t
      rw [List.foldl_cons, ih]
      unfold goods
      by_cases c : V.goodD x = true
      · rw [if_pos c, List.filter_cons_of_pos c]; rfl
      · rw [if_neg c, List.filter_cons_of_neg c]
  exact key l []
theorem rPutDots_eq {l : List TDot} (h : ∀ d ∈ l, OkD d) (hl : l.length ≤ 1000000000) (row : List Int) (hr : row.length ≤ 100000000000) : r15_PutDots row l = pure (row ++ encDs l) := by
  have h3 := good_len l
  have h1 := N.encI_len (v := ((sortD (goods l)).length : Int)) (by omega)
  have h2 := flat_len (sortD (goods l)) encD 18 fun x hx => encD_len (okD_good h x hx)
  unfold r15_PutDots
  rw [rgood_loop l (by omega), pure_bind, wU64 (by omega) (by omega), N.rAppend_eq row (by omega) (by omega) (by omega), det_pure, pure_bind]
  have := loopApp (body := r15_PutDots_l1 (sortD (goods l))) (sortD (goods l)) encD (row ++ N.encI ((sortD (goods l)).length : Int)) 1000000000000 (fun i out => (out, (i : Int))) (fun t => pure t) (by rw [List.length_append]; omega) (fun i x out hx hi ho => by
    have hd : decide ((i : Int) < ((sortD (goods l)).length : Int)) = true := by simpa using hi
    unfold r15_PutDots_l1
    simp only [hd, cond_true, idx_nat hx, pure_bind, rPutDot_eq (okD_good h x (List.mem_of_getElem? hx)) out (by omega), det_pure, wSucc (show i < 9223372036854775807 by omega)]) (fun out => by
    unfold r15_PutDots_l1
    simp [pure_bind])
  rw [show (0 : Int) = ((0 : Nat) : Int) from rfl, this, pure_bind, encDs, List.append_assoc]

def encR (x : TRun) : List Int := N.encI x.lo ++ N.encI x.hi
def encP (p : TPart) : List Int := N.encI p.dev ++ (N.encI p.runs.length ++ p.runs.flatMap encR)
def encN (c : List TPart) : List Int := N.encI c.length ++ c.flatMap encP
def encC (c : List TPart) : List Int := encN (C.normC c)
structure OkP (p : TPart) : Prop where
  d0 : 0 ≤ p.dev
  d1 : p.dev ≤ 65535
  r : ∀ x ∈ p.runs, (0 ≤ x.lo ∧ x.lo ≤ 18446744073709551615) ∧ 0 ≤ x.hi ∧ x.hi ≤ 18446744073709551615
theorem encR_len {x : TRun} (h : (0 ≤ x.lo ∧ x.lo ≤ 18446744073709551615) ∧ 0 ≤ x.hi ∧ x.hi ≤ 18446744073709551615) : (encR x).length ≤ 18 := by
  have h1 := N.encI_len h.1.2
  have h2 := N.encI_len h.2.2
  rw [encR, List.length_append]; omega
theorem encP_len {p : TPart} (h : OkP p) (hl : p.runs.length ≤ 1000000000000) : (encP p).length ≤ 18 + 18 * p.runs.length := by
  have h1 := N.encI_len (v := p.dev) (by have := h.d1; omega)
  have h2 := N.encI_len (v := (p.runs.length : Int)) (by omega)
  have h3 := flat_len p.runs encR 18 fun x hx => encR_len (h.r x hx)
  rw [encP, List.length_append, List.length_append]; omega
theorem flatP_len (c : List TPart) (h : ∀ p ∈ c, OkP p) (hl : C.totC c ≤ 1000000000000) : (c.flatMap encP).length ≤ 18 * c.length + 18 * C.totC c := by
  induction c with
  | nil => simp
  | cons p r ih =>
    have e : C.totC (p :: r) = p.runs.length + C.totC r := by simp [C.totC]
    have h1 := encP_len (h p (by simp)) (by omega)
    have h2 := ih (fun q hq => h q (by simp [hq])) (by omega)
    rw [List.flatMap_cons, List.length_append, List.length_cons, e]; omega
theorem encN_len {c : List TPart} (h : ∀ p ∈ c, OkP p) (hc : c.length ≤ 1000000000000) (hl : C.totC c ≤ 1000000000000) : (encN c).length ≤ 9 + 18 * c.length + 18 * C.totC c := by
  have h1 := N.encI_len (v := (c.length : Int)) (by omega)
  have h2 := flatP_len c h hl
  rw [encN, List.length_append]; omega
theorem okP_norm {c : List TPart} (h : ∀ p ∈ c, p.dev ≤ 65535) : ∀ p ∈ C.normC c, OkP p := fun p hp => by
  have h1 := (C.canon_norm c).nf p hp
  refine ⟨by omega, ?_, fun x hx => ?_⟩
  · have h2 := (C.mem_partsOf.1 hp).1
    obtain ⟨q, hq, e⟩ := (C.mem_devs.1 h2).1
    rw [← e]; exact h q hq
  · have := R.mayR_iff.1 (h1.2.2.may x hx)
    omega


theorem PutCtx_eq {c : List TPart} (ho : C.Ok c) (h : ∀ p ∈ c, p.dev ≤ 65535) (hs : c.length ≤ 100000000 ∧ C.totC c ≤ 100000000) (row : List Int) (hr : row.length ≤ 100000000000) : dcode_PutCtx_o c row = pure (row ++ encC c) := by
  have hn := C.len_normC c
  have ht := C.tot_normC c
  have hp := okP_norm h
  have hl := encN_len hp (by omega) (by omega)
  have h9 := N.encI_len (v := ((C.normC c).length : Int)) (by omega)
  have hf := flatP_len (C.normC c) hp (by omega)
  unfold dcode_PutCtx_o
  rw [C.Norm_eq c ho.sm, det_pure, pure_bind, wU64 (by omega) (by omega), N.WNum_eq row (by omega) (by omega) (by omega), det_pure, pure_bind]
  have := loopApp (body := dcode_PutCtx_o_l1 (C.normC c)) (C.normC c) encP (row ++ N.encI ((C.normC c).length : Int)) 1000000000000 (fun i out => ((i : Int), out)) (fun t => pure t) (by rw [List.length_append]; omega) (fun i p out hx hi hout => by
    have hd : decide ((i : Int) < ((C.normC c).length : Int)) = true := by simpa using hi
    have hm := List.mem_of_getElem? hx
    have hpp := hp p hm
    have hrl : p.runs.length ≤ 1000000000 := by have := C.run_le p hm; omega
    have e1 := N.encI_len (v := p.dev) (by have := hpp.d1; omega)
    have e2 := N.encI_len (v := (p.runs.length : Int)) (by omega)
    have e3 := flat_len p.runs encR 18 fun x hx => encR_len (hpp.r x hx)
    unfold dcode_PutCtx_o_l1
    simp only [hd, cond_true, idx_nat hx, pure_bind]
    rw [wU64 hpp.d0 (by have := hpp.d1; omega), N.WNum_eq out hpp.d0 (by have := hpp.d1; omega) (by omega), det_pure, pure_bind, wU64 (by omega) (by omega), N.WNum_eq _ (by omega) (by omega) (by rw [List.length_append]; omega), det_pure, pure_bind]
    have := loopApp (body := dcode_PutCtx_o_l0 p) p.runs encR (out ++ N.encI p.dev ++ N.encI (p.runs.length : Int)) 2000000000000 (fun i out => ((i : Int), out)) (fun t => pure t) (by rw [List.length_append, List.length_append]; omega) (fun j x out2 hx2 hj hout2 => by
      have hd2 : decide ((j : Int) < (p.runs.length : Int)) = true := by simpa using hj
      have hxr := hpp.r x (List.mem_of_getElem? hx2)
      have e4 := N.encI_len hxr.1.2
      unfold dcode_PutCtx_o_l0
      simp only [hd2, cond_true, idx_nat hx2, pure_bind]
      rw [N.WNum_eq out2 hxr.1.1 hxr.1.2 (by omega), det_pure, pure_bind, N.WNum_eq _ hxr.2.1 hxr.2.2 (by rw [List.length_append]; omega), det_pure, pure_bind, wSucc (show j < 9223372036854775807 by omega), encR, List.append_assoc]) (fun out => by
      unfold dcode_PutCtx_o_l0
      simp [pure_bind])
    rw [show (0 : Int) = ((0 : Nat) : Int) from rfl, this, pure_bind, wSucc (show i < 9223372036854775807 by omega), encP]
    simp only [List.append_assoc]) (fun out => by
    unfold dcode_PutCtx_o_l1
    simp [pure_bind])
  rw [show (0 : Int) = ((0 : Nat) : Int) from rfl, this, encC, encN, List.append_assoc]
theorem rPutCtx_eq {c : List TPart} (ho : C.Ok c) (h : ∀ p ∈ c, p.dev ≤ 65535) (hs : c.length ≤ 100000000 ∧ C.totC c ≤ 100000000) (row : List Int) (hr : row.length ≤ 100000000000) : r15_PutCtx row c = pure (row ++ encC c) := by
  have hn := C.len_normC c
  have ht := C.tot_normC c
  have hp := okP_norm h
  have hl := encN_len hp (by omega) (by omega)
  have h9 := N.encI_len (v := ((C.normC c).length : Int)) (by omega)
  have hf := flatP_len (C.normC c) hp (by omega)
  unfold r15_PutCtx
  rw [C.rNorm_eq c ho, det_pure, pure_bind, wU64 (by omega) (by omega), N.rAppend_eq row (by omega) (by omega) (by omega), det_pure, pure_bind]
  have := loopApp (body := r15_PutCtx_l1 (C.normC c)) (C.normC c) encP (row ++ N.encI ((C.normC c).length : Int)) 1000000000000 (fun i out => (out, (i : Int))) (fun t => pure t) (by rw [List.length_append]; omega) (fun i p out hx hi hout => by
    have hd : decide ((i : Int) < ((C.normC c).length : Int)) = true := by simpa using hi
    have hm := List.mem_of_getElem? hx
    have hpp := hp p hm
    have hrl : p.runs.length ≤ 1000000000 := by have := C.run_le p hm; omega
    have e1 := N.encI_len (v := p.dev) (by have := hpp.d1; omega)
    have e2 := N.encI_len (v := (p.runs.length : Int)) (by omega)
    have e3 := flat_len p.runs encR 18 fun x hx => encR_len (hpp.r x hx)
    unfold r15_PutCtx_l1
    simp only [hd, cond_true, idx_nat hx, pure_bind]
    rw [wU64 hpp.d0 (by have := hpp.d1; omega), N.rAppend_eq out hpp.d0 (by have := hpp.d1; omega) (by omega), det_pure, pure_bind, wU64 (by omega) (by omega), N.rAppend_eq _ (by omega) (by omega) (by rw [List.length_append]; omega), det_pure, pure_bind]
    have := loopApp (body := r15_PutCtx_l0 (C.normC c) (i : Int)) p.runs encR (out ++ N.encI p.dev ++ N.encI (p.runs.length : Int)) 2000000000000 (fun i out => (out, (i : Int))) (fun t => pure t) (by rw [List.length_append, List.length_append]; omega) (fun j x out2 hx2 hj hout2 => by
      have hd2 : decide ((j : Int) < (p.runs.length : Int)) = true := by simpa using hj
      have hxr := hpp.r x (List.mem_of_getElem? hx2)
      have e4 := N.encI_len hxr.1.2
      unfold r15_PutCtx_l0
      simp only [hd2, cond_true, idx_nat hx, idx_nat hx2, pure_bind]
      rw [N.rAppend_eq out2 hxr.1.1 hxr.1.2 (by omega), det_pure, pure_bind, N.rAppend_eq _ hxr.2.1 hxr.2.2 (by rw [List.length_append]; omega), det_pure, pure_bind, wSucc (show j < 9223372036854775807 by omega), encR, List.append_assoc]) (fun out => by
      unfold r15_PutCtx_l0
      simp [idx_nat hx, pure_bind])
    rw [show (0 : Int) = ((0 : Nat) : Int) from rfl, this, pure_bind, wSucc (show i < 9223372036854775807 by omega), encP]
    simp only [List.append_assoc]) (fun out => by
    unfold r15_PutCtx_l1
    simp [pure_bind])
  rw [show (0 : Int) = ((0 : Nat) : Int) from rfl, this, pure_bind, encC, encN, List.append_assoc]
theorem encC_len {c : List TPart} (h : ∀ p ∈ c, p.dev ≤ 65535) (hs : c.length ≤ 100000000 ∧ C.totC c ≤ 100000000) : (encC c).length ≤ 10000000000 := by
  have hn := C.len_normC c
  have ht := C.tot_normC c
  have hl := encN_len (okP_norm h) (by omega) (by omega)
  rw [encC]; omega
theorem Encode_eq {c : List TPart} (ho : C.Ok c) (h : ∀ p ∈ c, p.dev ≤ 65535) (hs : c.length ≤ 100000000 ∧ C.totC c ≤ 100000000) : dcode_Encode c = pure (encC c) := by
  have := encC_len h hs
  unfold dcode_Encode
  rw [PutCtx_eq ho h hs [] (by simp), det_pure, pure_bind, List.nil_append, N.Bytes_eq _ (by omega), det_pure, pure_bind]
theorem strL_inj {a b : List Int} (ha : N.By a) (hb : N.By b) (h : strL a = strL b) : a = b := by
  have key : ∀ (l : List Int) (r : ByteArray), (l.foldl (fun r n => r.push (UInt8.ofNat n.toNat)) r).data.toList = r.data.toList ++ l.map fun n => UInt8.ofNat n.toNat := by
    intro l
    induction l with
    | nil => intro r; simp
    | cons x t ih => intro r; rw [List.foldl_cons, ih]; simp
  have e : a.map (fun n => UInt8.ofNat n.toNat) = b.map fun n => UInt8.ofNat n.toNat := by
    have h1 := key a ByteArray.empty
    have h2 := key b ByteArray.empty
    have h3 := congrArg (fun s : ByteArray => s.data.toList) h
    simp only [strL] at h3
    rw [h1, h2] at h3
    simpa using h3
  have : ∀ (a b : List Int), N.By a → N.By b → a.map (fun n => UInt8.ofNat n.toNat) = b.map (fun n => UInt8.ofNat n.toNat) → a = b := by
    intro a
    induction a with
    | nil => intro b _ _ h; cases b with
      | nil => rfl
      | cons => simp at h
    | cons x t ih =>
      intro b ha hb h
      cases b with
      | nil => simp at h
      | cons y u =>
        simp only [List.map_cons, List.cons.injEq] at h
        have hx := ha x (by simp); have hy := hb y (by simp)
        have e := congrArg UInt8.toNat h.1
        simp only [UInt8.toNat_ofNat'] at e
        rw [ih u (fun z hz => ha z (by simp [hz])) (fun z hz => hb z (by simp [hz])) h.2]
        congr 1; omega
  exact this a b ha hb e
theorem by_encC (c : List TPart) (h : ∀ p ∈ C.normC c, OkP p) (hl : (C.normC c).length ≤ 1000000000000 ∧ C.totC (C.normC c) ≤ 1000000000000) : N.By (encC c) := by
  have hR : ∀ p, OkP p → ∀ x ∈ p.runs, N.By (encR x) := fun p hp x hx => (N.by_enc (hp.r x hx).1.2).app (N.by_enc (hp.r x hx).2.2)
  have flat : ∀ {ε : Type} (l : List ε) (f : ε → List Int), (∀ x ∈ l, N.By (f x)) → N.By (l.flatMap f) := fun l f hf y hy => by
    obtain ⟨x, hx, h⟩ := List.mem_flatMap.1 hy
    exact hf x hx y h
  refine (N.by_enc (by omega)).app (flat _ _ fun p hp => ?_)
  have hpp := h p hp
  have := C.run_le p hp
  exact (N.by_enc (by have := hpp.d1; omega)).app ((N.by_enc (by omega)).app (flat _ _ (hR p hpp)))
theorem equal_eq {a b : List Int} : l15_equal a b = pure (decide (strL a = strL b)) := rfl
theorem ctx_one : C.normC [⟨1, [⟨1, 2⟩]⟩] = [⟨1, [⟨1, 2⟩]⟩] := (C.Canon.eq_norm ⟨by simp [C.OrdP], fun p hp => by
  rw [List.mem_singleton.1 hp]
  exact ⟨by decide, by simp, by simp [R.Nf, R.mayR_iff]⟩⟩).symm
theorem works_eq : l15_works = pure true := by
  unfold l15_works
  have ho : C.Ok [⟨1, [⟨1, 2⟩]⟩] := ⟨fun p hp => by rw [List.mem_singleton.1 hp]; decide, by simp, by simp [C.totC]⟩
  rw [Encode_eq ho (fun p hp => by rw [List.mem_singleton.1 hp]; decide) (by simp [C.totC]), det_pure, pure_bind, equal_eq, det_pure, pure_bind]
  have e : encC [⟨1, [⟨1, 2⟩]⟩] = [1, 1, 1, 1, 1, 1, 1, 1, 1, 2] := by
    rw [encC, ctx_one]
    have e1 : N.encI 1 = [1, 1] := by
      show (N.lenN 1 : Int) :: N.be 1 (N.lenN 1) = _
      have : N.lenN 1 = 1 := by rw [N.lenN_pos (by decide), show 1 / 256 = 0 from rfl, N.lenN_zero]
      rw [this]; rfl
    have e2 : N.encI 2 = [1, 2] := by
      show (N.lenN 2 : Int) :: N.be 2 (N.lenN 2) = _
      have : N.lenN 2 = 1 := by rw [N.lenN_pos (by decide), show 2 / 256 = 0 from rfl, N.lenN_zero]
      rw [this]; rfl
    simp [encN, encP, encR, e1, e2]
  rw [e]; simp
theorem few_eq (l : List TDot) (c : List TPart) : ((cond (decide (100 < (l.length : Int))) (pure true) ((det (r09_Few c)).bind fun v6 => pure (!v6)) : M Bool)) = pure (!(decide (l.length ≤ 100) && (decide (c.length ≤ 30) && c.all fun p => decide (p.runs.length ≤ 30)))) := by
  rw [C.rFew_eq, det_pure, pure_bind]
  by_cases h : l.length ≤ 100
  · have : decide ((100 : Int) < (l.length : Int)) = false := by simp; omega
    rw [this, cond_false, decide_eq_true h, Bool.true_and]
  · have : decide ((100 : Int) < (l.length : Int)) = true := by simp; omega
    rw [this, cond_true, decide_eq_false h, Bool.false_and]; rfl
theorem dcodeWrites_eq (d : TDot) (l : List TDot) (c : List TPart) (hd : OkD d) (hl : ∀ d ∈ l, OkD d) (hc : ∀ p ∈ c, 0 ≤ p.dev ∧ p.dev ≤ 65535) : l15_DcodeWrites d l c = pure true := by
  unfold l15_DcodeWrites
  rw [few_eq, pure_bind, works_eq]
  cases hf : (decide (l.length ≤ 100) && (decide (c.length ≤ 30) && c.all fun p => decide (p.runs.length ≤ 30))) with
  | false => simp only [Bool.not_false, cond_true, det_pure, pure_bind]
  | true =>
    rw [Bool.and_eq_true] at hf
    have hll : l.length ≤ 100 := by simpa using hf.1
    have hcc := C.few_tot hf.2
    have ho := C.ok_few (fun p hp => (hc p hp).1) hcc
    have h1 := encD_len hd
    have h2 := encDs_len hl (by omega)
    have h3 := encC_len (fun p hp => (hc p hp).2) (by omega)
    simp only [Bool.not_true, cond_false, PutDot_eq hd [] (by simp), PutDots_eq hl (by omega) [] (by simp), PutCtx_eq ho (fun p hp => (hc p hp).2) (by omega) [] (by simp), rPutDot_eq hd [] (by simp), rPutDots_eq hl (by omega) [] (by simp), rPutCtx_eq ho (fun p hp => (hc p hp).2) (by omega) [] (by simp), Encode_eq ho (fun p hp => (hc p hp).2) (by omega), det_pure, pure_bind, List.nil_append,
      N.Bytes_eq (encD d) (by omega), N.Bytes_eq (encDs l) (by omega), N.Bytes_eq (encC c) (by omega), equal_eq, decide_true, cond_true]
end Go.Ep.M.D
