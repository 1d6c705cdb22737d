/- Texts that the walks and laws lean on, side by side. -/
import Derived.ProofKit
import Derived.Deep.Slices
import Derived.Test.YtacnidaafcfgiaaGreatProg
import Derived.KernelRfl
import Derived.Test.YtacnidaafcfgiaaGreatMdb2
import Derived.Test.YtacnidaafcfgiaaGreatMdb10
namespace Go.Ep.M.D
open Go

theorem lt_iff {a b : TDot} : ltDot a b = true ↔ a.dev < b.dev ∨ (a.dev = b.dev ∧ a.n < b.n) := by simp [ltDot]
theorem lt_irr (a : TDot) : ltDot a a = false := by
  cases h : ltDot a a with
  | false => rfl
  | true => rw [lt_iff] at h; omega
theorem lt_trans {a b c : TDot} (h1 : ltDot a b = true) (h2 : ltDot b c = true) : ltDot a c = true := by rw [lt_iff] at *; omega
theorem lt_asym {a b : TDot} (h : ltDot a b = true) : ltDot b a = false := by
  cases h2 : ltDot b a with
  | false => rfl
  | true => rw [lt_iff] at h h2; omega
theorem lt_tri {a b : TDot} (h1 : ltDot a b = false) (h2 : ltDot b a = false) : a = b := by
  have h3 : ¬ (ltDot a b = true) := by simp [h1]
  have h4 : ¬ (ltDot b a = true) := by simp [h2]
  rw [lt_iff] at h3 h4
  cases a; cases b
  simp only [TDot.mk.injEq] at *
  omega
abbrev Srt (l : List TDot) : Prop := l.Pairwise fun x y => ltDot x y = true
theorem srt_ext : ∀ {l l' : List TDot}, Srt l → Srt l' → (∀ d, d ∈ l ↔ d ∈ l') → l = l'
  | [], [], _, _, _ => rfl
  | [], y :: r, _, _, h => by have := (h y).2 (by simp); simp at this
  | x :: r, [], _, _, h => by have := (h x).1 (by simp); simp at this
  | x :: r, y :: t, h1, h2, h => by
    have hx := (h x).1 (by simp)
    have hy := (h y).2 (by simp)
    have e : x = y := by
      rcases List.mem_cons.1 hx with e | hx
      · exact e
      · rcases List.mem_cons.1 hy with e | hy
        · exact e.symm
        · have a1 := (List.pairwise_cons.1 h2).1 x hx
          have a2 := (List.pairwise_cons.1 h1).1 y hy
          rw [lt_asym a1] at a2; cases a2
    subst e
    congr 1
    refine srt_ext (List.pairwise_cons.1 h1).2 (List.pairwise_cons.1 h2).2 fun d => ?_
    have h3 := h d
    simp only [List.mem_cons] at h3
    constructor
    · intro hd
      rcases h3.1 (.inr hd) with e | h4
      · have := (List.pairwise_cons.1 h1).1 d hd
        rw [e, lt_irr] at this; cases this
      · exact h4
    · intro hd
      rcases h3.2 (.inr hd) with e | h4
      · have := (List.pairwise_cons.1 h2).1 d hd
        rw [e, lt_irr] at this; cases this
      · exact h4

def insD (s : List TDot) (d : TDot) : List TDot := (s.filter fun x => ltDot x d) ++ [d] ++ (s.filter fun x => ltDot d x)
theorem ins_mem {s : List TDot} {d x : TDot} : x ∈ insD s d ↔ x = d ∨ x ∈ s := by
  simp only [insD, List.mem_append, List.mem_filter, List.mem_singleton]
  constructor
  · rintro ((h | h) | h)
    · exact .inr h.1
    · exact .inl h
    · exact .inr h.1
  · rintro (h | h)
    · exact .inl (.inr h)
    · cases h1 : ltDot x d with
      | true => exact .inl (.inl ⟨h, rfl⟩)
      | false =>
        cases h2 : ltDot d x with
        | true => exact .inr ⟨h, rfl⟩
        | false => exact .inl (.inr (lt_tri h1 h2))
theorem ins_srt {s : List TDot} (h : Srt s) (d : TDot) : Srt (insD s d) := by
  unfold Srt insD
  rw [List.pairwise_append, List.pairwise_append]
  refine ⟨⟨h.filter _, by simp, fun a ha b hb => ?_⟩, h.filter _, fun a ha b hb => ?_⟩
  · rw [List.mem_singleton.1 hb]; exact (List.mem_filter.1 ha).2
  · have hb := (List.mem_filter.1 hb).2
    rcases List.mem_append.1 ha with ha | ha
    · exact lt_trans (List.mem_filter.1 ha).2 hb
    · rw [List.mem_singleton.1 ha]; exact hb
theorem ins_len (s : List TDot) (d : TDot) : (insD s d).length ≤ s.length + 1 := by
  unfold insD
  have h : ∀ l : List TDot, (l.filter fun x => ltDot x d).length + (l.filter fun x => ltDot d x).length ≤ l.length := by
    intro l
    induction l with
    | nil => simp
    | cons x r ih =>
      cases h1 : ltDot x d with
      | true => simp [h1, lt_asym h1]; omega
      | false =>
        cases h2 : ltDot d x with
        | true => simp [h1, h2]; omega
        | false => simp [h1, h2]; omega
  have := h s
  simp; omega
def sortD (l : List TDot) : List TDot := l.foldl insD []
theorem sort_gen : ∀ (l s : List TDot), Srt s → Srt (l.foldl insD s) ∧ (∀ d, d ∈ l.foldl insD s ↔ d ∈ s ∨ d ∈ l) ∧ (l.foldl insD s).length ≤ s.length + l.length
  | [], s, h => ⟨h, by simp, by simp⟩
  | x :: r, s, h => by
    obtain ⟨h1, h2, h3⟩ := sort_gen r (insD s x) (ins_srt h x)
    refine ⟨h1, fun d => ?_, ?_⟩
    · rw [List.foldl_cons, h2 d, ins_mem, List.mem_cons]
      constructor
      · rintro ((h | h) | h)
        · exact .inr (.inl h)
        · exact .inl h
        · exact .inr (.inr h)
      · rintro (h | h | h)
        · exact .inl (.inr h)
        · exact .inl (.inl h)
        · exact .inr h
    · have := ins_len s x
      rw [List.foldl_cons, List.length_cons]; omega
theorem sort_srt (l : List TDot) : Srt (sortD l) := (sort_gen l [] List.Pairwise.nil).1
theorem sort_mem {l : List TDot} {d : TDot} : d ∈ sortD l ↔ d ∈ l := by simpa [sortD] using (sort_gen l [] List.Pairwise.nil).2.1 d
theorem sort_len (l : List TDot) : (sortD l).length ≤ l.length := by simpa [sortD] using (sort_gen l [] List.Pairwise.nil).2.2
theorem sort_self {l : List TDot} (h : Srt l) : sortD l = l := srt_ext (sort_srt l) h fun _ => sort_mem
def ddS (out : List TDot) (x : TDot) : List TDot := if out.getLast? = some x then out else out ++ [x]
def dd (l : List TDot) : List TDot := l.foldl ddS []
theorem dd_snoc (l : List TDot) (x : TDot) : dd (l ++ [x]) = ddS (dd l) x := by simp [dd]
theorem dd_last (l : List TDot) : (dd l).getLast? = l.getLast? := by
  rcases R.snoc_cases l with rfl | ⟨r, y, rfl⟩
  · rfl
  · rw [dd_snoc]
    unfold ddS
    by_cases c : (dd r).getLast? = some y
    · rw [if_pos c, c]; simp
    · rw [if_neg c]; simp
theorem dd_mem {l : List TDot} {d : TDot} : d ∈ dd l ↔ d ∈ l := by
  have : ∀ (l s : List TDot), d ∈ l.foldl ddS s ↔ d ∈ s ∨ d ∈ l := by
    intro l
    induction l with
    | nil => intro s; simp
    | cons x r ih =>
      intro s
      rw [List.foldl_cons, ih]
      have h2 : d ∈ ddS s x ↔ d ∈ s ∨ d = x := by
        unfold ddS
        split
        · rename_i h
          exact ⟨.inl, fun h3 => h3.elim id fun e => by rw [e]; exact List.mem_of_getLast? h⟩
        · simp
      rw [h2, List.mem_cons]
      exact or_assoc
  simpa [dd] using this l []
theorem dd_srt {l : List TDot} (h : l.Pairwise fun x y => ltDot y x = false) : Srt (dd l) := by
  have : ∀ (n : Nat) (l : List TDot), l.length = n → (l.Pairwise fun x y => ltDot y x = false) → Srt (dd l) := by
    intro n
    induction n with
    | zero => intro l hl _; have := List.eq_nil_of_length_eq_zero hl; subst this; exact List.Pairwise.nil
    | succ n ih =>
      intro l hl h
      rcases R.snoc_cases l with rfl | ⟨r, y, rfl⟩
      · simp at hl
      · rw [List.pairwise_append] at h
        have hr := ih r (by simpa using hl) h.1
        rw [dd_snoc]
        unfold ddS
        split
        · exact hr
        · rename_i hne
          unfold Srt
          rw [List.pairwise_append]
          refine ⟨hr, by simp, fun a ha b hb => ?_⟩
          rw [List.mem_singleton.1 hb]
          have ha' := dd_mem.1 ha
          have h1 := h.2.2 a ha' y (by simp)
          cases h2 : ltDot a y with
          | true => rfl
          | false =>
            exfalso
            have e := lt_tri h2 h1
            subst e
            rw [dd_last] at hne
            rcases R.snoc_cases r with rfl | ⟨q, z, rfl⟩
            · simp at ha'
            · have hz : ltDot a z = false := h.2.2 z (by simp) a (by simp)
              rcases List.mem_append.1 ha' with h5 | h5
              · have h6 : ltDot z a = false := by
                  have := (List.pairwise_append.1 h.1).2.2 a h5 z (by simp); exact this
                have := lt_tri hz h6
                subst this
                simp at hne
              · rw [List.mem_singleton.1 h5] at hne; simp at hne
  exact this l.length l rfl h

theorem Clone_eq (l : List TDot) (h : l.length ≤ 1000000000000) : slices_Clone_sl_Dot_Dot l = pure l := by
  unfold slices_Clone_sl_Dot_Dot
  refine eq_pure ⟨⟨false, fun h => by cases h⟩, fun b hb => ?_⟩
  cases b with
  | true => show ([] : List TDot) = l; exact (hb rfl).symm
  | false =>
    show _ ∧ ([] ++ l = l)
    exact ⟨by simp; omega, List.nil_append l⟩
theorem dotEq (x y : TDot) : (decide (x.dev = y.dev) && decide (x.n = y.n)) = decide (x = y) := by
  cases x; cases y; simp [Bool.decide_and]
theorem take_snoc {l : List TDot} {m : Nat} {x : TDot} (h : l[m]? = some x) : l.take (m + 1) = l.take m ++ [x] := by
  rw [List.take_add_one, h]; rfl
theorem last_take {l : List TDot} {m : Nat} {x : TDot} (h : l[m]? = some x) : (l.take (m + 1)).getLast? = some x := by rw [take_snoc h]; simp
theorem inner_loop (s : List TDot) (k : Nat) (hk : k < s.length) (hl : s.length ≤ 1000000000000) : ∀ (d k2 kk : Nat) (v : List TDot), k + k2 + d = s.length → 1 ≤ k2 → v.length = s.length → kk + 1 ≤ k + k2 → v.take kk = dd (s.take (k + k2)) → v.drop (k + k2 - 1) = s.drop (k + k2 - 1) →
    ∃ (kk' : Nat) (v' : List TDot), loop (slices_Compact_sl_Dot_Dot_o_l0 s (k : Int)) ((kk : Int), (k2 : Int), v) = pure ((kk' : Int), v') ∧ v'.length = s.length ∧ kk' ≤ s.length ∧ v'.take kk' = dd s
  | 0, k2, kk, v, hd, h1, hv, hkk, ht, _ => by
    refine ⟨kk, v, loop_done ?_, hv, by omega, by rw [ht, show k + k2 = s.length by omega, List.take_length]⟩
    unfold slices_Compact_sl_Dot_Dot_o_l0
    have : decide ((k2 : Int) < (((s.length - (k : Int).toNat : Nat)) : Int)) = false := by simp; omega
    simp only [this, cond_false]
  | d + 1, k2, kk, v, hd, h1, hv, hkk, ht, hdr => by
    have hvg : ∀ j, k + k2 - 1 ≤ j → v[j]? = s[j]? := fun j hj => by
      have := congrArg (fun l => l[j - (k + k2 - 1)]?) hdr
      simp only [List.getElem?_drop] at this
      rw [show k + k2 - 1 + (j - (k + k2 - 1)) = j by omega] at this; exact this
    obtain ⟨x, hx⟩ : ∃ x, s[k + k2]? = some x := ⟨_, List.getElem?_eq_getElem (by omega)⟩
    obtain ⟨y, hy⟩ : ∃ y, s[k + k2 - 1]? = some y := ⟨_, List.getElem?_eq_getElem (by omega)⟩
    have hlast : (dd (s.take (k + k2))).getLast? = some y := by
      rw [dd_last]
      have := last_take hy
      rwa [show k + k2 - 1 + 1 = k + k2 by omega] at this
    have hdd : dd (s.take (k + k2 + 1)) = if y = x then dd (s.take (k + k2)) else dd (s.take (k + k2)) ++ [x] := by
      rw [take_snoc hx, dd_snoc]
      unfold ddS
      rw [hlast]
      by_cases c : y = x
      · rw [if_pos c, if_pos (by rw [c])]
      · rw [if_neg c, if_neg (by intro e; exact c (Option.some.inj e))]
    have hb : slices_Compact_sl_Dot_Dot_o_l0 s (k : Int) ((kk : Int), (k2 : Int), v) = pure (.next (if y = x then ((kk : Int), ((k2 + 1 : Nat) : Int), v) else (((kk + 1 : Nat) : Int), ((k2 + 1 : Nat) : Int), v.set kk x))) := by
      unfold slices_Compact_sl_Dot_Dot_o_l0
      have hc : decide ((k2 : Int) < (((s.length - (k : Int).toNat : Nat)) : Int)) = true := by simp; omega
      have e1 : IntKind.i64.wrap ((k2 : Int) - 1) = ((k2 - 1 : Nat) : Int) := by rw [wI64 (by omega) (by omega)]; omega
      have i1 : idx v ((((k : Int).toNat + (k2 : Int).toNat : Nat)) : Int) = pure x := idx_nat (by rw [Int.toNat_natCast, Int.toNat_natCast, hvg _ (by omega)]; exact hx)
      have i2 : idx v ((((k : Int).toNat + (((k2 - 1 : Nat) : Int)).toNat : Nat)) : Int) = pure y := idx_nat (by rw [Int.toNat_natCast, Int.toNat_natCast, hvg _ (by omega), show k + (k2 - 1) = k + k2 - 1 by omega]; exact hy)
      obtain ⟨z, hz⟩ : ∃ z, v[kk]? = some z := ⟨_, List.getElem?_eq_getElem (by omega)⟩
      have i3 : idx v (kk : Int) = pure z := idx_nat hz
      simp only [hc, cond_true, e1]
      rw [need_true (by simp; omega), i1, pure_bind, need_true (by simp; omega), i2, pure_bind]
      simp only [dotEq]
      by_cases c : y = x
      · have c1 : decide (x = y) = true := decide_eq_true c.symm
        simp only [c1, Bool.not_true, cond_false, pure_bind, wSucc (show k2 < 9223372036854775807 by omega), if_pos c]
      · have c1 : decide (x = y) = false := decide_eq_false (fun e => c e.symm)
        simp only [c1, Bool.not_false, cond_true, if_neg c]
        rw [need_true (by simp; omega), i3]
        simp only [pure_bind, wSucc (show k2 < 9223372036854775807 by omega), wSucc (show kk < 9223372036854775807 by omega), Int.toNat_natCast]
    by_cases c : y = x
    · rw [if_pos c] at hb hdd
      rw [loop_next hb]
      refine inner_loop s k hk hl d (k2 + 1) kk v (by omega) (by omega) hv (by omega) (by rw [ht, ← hdd]; rfl) ?_
      have := congrArg (List.drop 1) hdr
      rw [List.drop_drop, List.drop_drop, show k + k2 - 1 + 1 = k + (k2 + 1) - 1 by omega] at this
      exact this
    · rw [if_neg c] at hb hdd
      rw [loop_next hb]
      refine inner_loop s k hk hl d (k2 + 1) (kk + 1) (v.set kk x) (by omega) (by omega) (by simpa using hv) (by omega) ?_ ?_
      · have h5 : (v.set kk x)[kk]? = some x := by rw [List.getElem?_set]; simp; omega
        rw [take_snoc h5, List.take_set, List.set_eq_of_length_le (by rw [List.length_take]; omega), ht, ← hdd]; rfl
      · rw [List.drop_set, if_pos (by omega)]
        have := congrArg (List.drop 1) hdr
        rw [List.drop_drop, List.drop_drop, show k + k2 - 1 + 1 = k + (k2 + 1) - 1 by omega] at this
        exact this
theorem Compact_eq (s : List TDot) (hl : s.length ≤ 1000000000000) : slices_Compact_sl_Dot_Dot_o s = pure (dd s) := by
  unfold slices_Compact_sl_Dot_Dot_o
  by_cases h2 : s.length < 2
  · have : decide ((s.length : Int) < 2) = true := by simp; omega
    rw [this, cond_true]
    match s, h2 with
    | [], _ => rfl
    | [x], _ => rfl
  · have : decide ((s.length : Int) < 2) = false := by simp; omega
    rw [this, cond_false]
    have key : ∀ d k, k + d = s.length → 1 ≤ k → dd (s.take k) = s.take k → (loop (slices_Compact_sl_Dot_Dot_o_l1 s) (k : Int)).bind (exk fun _ => pure s) = pure (dd s) := by
      intro d
      induction d with
      | zero =>
        intro k hk h1 hd
        rw [loop_done (r := .brk ()) (by
          unfold slices_Compact_sl_Dot_Dot_o_l1
          have : decide ((k : Int) < (s.length : Int)) = false := by simp; omega
          simp only [this, cond_false])]
        rw [show k = s.length by omega, List.take_length] at hd
        show pure s = pure (dd s)
        rw [hd]
      | succ d ih =>
        intro k hk h1 hd
        obtain ⟨x, hx⟩ : ∃ x, s[k]? = some x := ⟨_, List.getElem?_eq_getElem (by omega)⟩
        obtain ⟨y, hy⟩ : ∃ y, s[k - 1]? = some y := ⟨_, List.getElem?_eq_getElem (by omega)⟩
        have hlast : (dd (s.take k)).getLast? = some y := by
          rw [dd_last]
          have := last_take hy
          rwa [show k - 1 + 1 = k by omega] at this
        have hc : decide ((k : Int) < (s.length : Int)) = true := by simp; omega
        have i1 : idx s (k : Int) = pure x := idx_nat hx
        have i2 : idx s (IntKind.i64.wrap ((k : Int) - 1)) = pure y := by
          rw [wI64 (by omega) (by omega)]
          exact idx_eq (by omega) (by rw [show ((k : Int) - 1).toNat = k - 1 by omega]; exact hy)
        by_cases c : x = y
        · subst c
          obtain ⟨kk, v, h5, h6, h7, h8⟩ := inner_loop s k (by omega) hl d 1 k s (by omega) (by omega) rfl (by omega) (by
            rw [take_snoc hx, dd_snoc, ddS, if_pos hlast, hd]) (by rw [show k + 1 - 1 = k by omega])
          rw [loop_done (r := .ret (dd s)) (by
            unfold slices_Compact_sl_Dot_Dot_o_l1
            simp only [hc, cond_true, i1, i2, pure_bind, dotEq, decide_true]
            rw [need_true (by omega), show (1 : Int) = ((1 : Nat) : Int) from rfl, h5, pure_bind]
            simp only []
            rw [need_true (by omega), need_true (by simp; omega), need_true (by
              simp only [List.length_append, List.length_take, List.length_replicate, List.length_drop, Int.toNat_natCast]; omega), pure_bind, exk_ret]
            congr 3
            rw [Int.toNat_natCast, List.append_assoc, List.take_append_of_le_length (by rw [List.length_take]; omega), List.take_take, Nat.min_self, h8])]
          rfl
        · have c1 : decide (x = y) = false := decide_eq_false c
          rw [loop_next (s' := ((k + 1 : Nat) : Int)) (by
            unfold slices_Compact_sl_Dot_Dot_o_l1
            simp only [hc, cond_true, i1, i2, pure_bind, dotEq, c1, cond_false, exk_brk, wSucc (show k < 9223372036854775807 by omega)])]
          refine ih (k + 1) (by omega) (by omega) ?_
          rw [take_snoc hx, dd_snoc, ddS, if_neg (by rw [hlast]; intro e; exact c (Option.some.inj e).symm), hd]
    have := key (s.length - 1) 1 (by omega) (by omega) (by
      obtain ⟨x, r, rfl⟩ : ∃ x r, s = x :: r := by
        cases s with
        | nil => simp at h2
        | cons x r => exact ⟨x, r, rfl⟩
      rfl)
    exact this
theorem srt_wp {l : List TDot} {Q : List TDot → Prop} (h : ∀ s, s.Perm l → (s.Pairwise fun x y => ltDot y x = false) → Q s) : (srt ltDot l).wp Q := by
  refine ⟨⟨l.mergeSort (fun x y => !ltDot y x), List.mergeSort_perm _ _, ?_⟩, fun s ⟨h1, h2⟩ => h s h1 h2⟩
  refine (List.pairwise_mergeSort (fun a b c h1 h2 => ?_) (fun a b => ?_) l).imp fun {x y} h => by simpa using h
  · simp only [Bool.not_eq_true'] at h1 h2 ⊢
    cases h3 : ltDot c a with
    | false => rfl
    | true =>
      rw [lt_iff] at h3
      have h4 : ¬ (ltDot b a = true) := by simp [h1]
      have h5 : ¬ (ltDot c b = true) := by simp [h2]
      rw [lt_iff] at h4 h5
      omega
  · cases h1 : ltDot b a with
    | false => rfl
    | true => rw [lt_asym h1]; rfl
theorem Sort_eq (l : List TDot) (h : l.length ≤ 1000000000000) : dot_Sort l = pure (sortD l) := by
  unfold dot_Sort
  rw [Clone_eq l h, det_pure, pure_bind, need_true (by omega)]
  refine eq_pure (srt_wp fun s hs hp => ?_)
  show (bind (det (slices_Compact_sl_Dot_Dot_o s)) fun y8 => pure y8).wp _
  rw [Compact_eq s (by rw [hs.length_eq]; exact h), det_pure, pure_bind]
  exact srt_ext (dd_srt hp) (sort_srt l) fun d => by rw [dd_mem, sort_mem]; exact hs.mem_iff

theorem cmp16_eq (x y : Int) : cmp_Compare_uint16 x y = pure (R.cmp3 x y) := by
  unfold cmp_Compare_uint16 cmp_isNaN_uint16 R.cmp3
  simp only [decide_true, Bool.not_true, det_pure, pure_bind, cond_false, cond_dec]
  split
  · rfl
  · split <;> rfl
theorem Cmp_eq (a b : TDot) : dot_Cmp a b = pure (V.cmpD a b) := by
  unfold dot_Cmp
  rw [cmp16_eq, det_pure, pure_bind, R.cmp3_eq, det_pure, pure_bind]
  unfold V.cmpD R.cmp3
  cases a with | mk d n => cases b with | mk e m =>
  simp only [TDot.mk.injEq, ltDot]
  by_cases h1 : d < e
  · have : ¬ d = e := by omega
    simp [h1, this]
  · by_cases h2 : e < d
    · have : ¬ d = e := by omega
      simp [h1, h2, this]
    · have h3 : d = e := by omega
      subst h3
      by_cases h4 : n < m
      · have : ¬ n = m := by omega
        simp [h4, this]
      · by_cases h5 : m < n
        · have : ¬ n = m := by omega
          simp [h4, h5, this]
        · have : n = m := by omega
          simp [this]


/-- A loop that puts bytes behind, for each element some. -/
theorem loopApp {σ ρ ε : Type} {body : σ → M (Step σ ρ)} (l : List ε) (f : ε → List Int) (row : List Int) (N : Nat) (mk : Nat → List Int → σ) (g : List Int → M ρ) (hN : row.length + (l.flatMap f).length ≤ N)
    (h1 : ∀ (i : Nat) (x : ε) (out : List Int), l[i]? = some x → i < l.length → out.length + (f x).length ≤ N → body (mk i out) = pure (.next (mk (i + 1) (out ++ f x))))
    (h2 : ∀ out, body (mk l.length out) = (g out).bind fun r => pure (.done r)) : loop body (mk 0 row) = g (row ++ l.flatMap f) := by
  have key : ∀ (k i : Nat) (out : List Int), i + k = l.length → out.length + ((l.drop i).flatMap f).length ≤ N → loop body (mk i out) = g (out ++ (l.drop i).flatMap f) := by
    intro k
    induction k with
    | zero =>
      intro i out hi _
      have : i = l.length := by omega
      subst this
      rw [loop_eq, h2, List.drop_length]
      simp only [List.flatMap_nil, List.append_nil]
      rfl
    | succ k ih =>
      intro i out hi hl
      have hlt : i < l.length := by omega
      rw [List.drop_eq_getElem_cons hlt, List.flatMap_cons, List.length_append] at hl
      rw [loop_next (h1 i l[i] out (List.getElem?_eq_getElem hlt) hlt (by omega)), ih (i + 1) _ (by omega) (by rw [List.length_append]; omega), List.drop_eq_getElem_cons hlt, List.flatMap_cons, List.append_assoc]
  simpa using key l.length 0 row (by omega) (by simpa using hN)
theorem flat_len {ε : Type} (l : List ε) (f : ε → List Int) (k : Nat) (h : ∀ x ∈ l, (f x).length ≤ k) : (l.flatMap f).length ≤ k * l.length := by
  induction l with
  | nil => simp
  | cons x r ih =>
    have h1 := h x (by simp)
    have h2 := ih fun y hy => h y (by simp [hy])
    rw [List.flatMap_cons, List.length_append, List.length_cons, Nat.mul_add]; omega

structure OkD (d : TDot) : Prop where
  d0 : 0 ≤ d.dev
  d1 : d.dev ≤ 65535
  n0 : 0 ≤ d.n
  n1 : d.n ≤ 18446744073709551615
def encD (d : TDot) : List Int := N.encI d.dev ++ N.encI d.n
theorem encD_len {d : TDot} (h : OkD d) : (encD d).length ≤ 18 := by
  have h1 := N.encI_len (v := d.dev) (by have := h.d1; omega)
  have h2 := N.encI_len (v := d.n) h.n1
  rw [encD, List.length_append]; omega
theorem PutDot_eq {d : TDot} (h : OkD d) (row : List Int) (hr : row.length ≤ 1000000000000) : dcode_PutDot_o d row = pure (row ++ encD d) := by
  have h1 := N.encI_len (v := d.dev) (by have := h.d1; omega)
  unfold dcode_PutDot_o
  rw [wU64 h.d0 (by have := h.d1; omega), N.WNum_eq row h.d0 (by have := h.d1; omega) (by omega), det_pure, pure_bind, N.WNum_eq _ h.n0 h.n1 (by rw [List.length_append]; omega), det_pure, pure_bind, encD, List.append_assoc]
def goods (l : List TDot) : List TDot := l.filter V.goodD
def encDs (l : List TDot) : List Int := N.encI (sortD (goods l)).length ++ (sortD (goods l)).flatMap encD
theorem good_loop (l : List TDot) (hl : l.length ≤ 1000000000000) : loop (dcode_PutDots_o_l0 l) (0, []) = pure (goods l) := by
  have := loopL (body := dcode_PutDots_o_l0 l) l (fun i t => ((i : Int), t)) (fun t d => if V.goodD d = true then t ++ [d] else t) (fun t => pure t) (fun i t => t.length ≤ i) (fun i x t hx hi hI => by
    have hd : decide ((i : Int) < (l.length : Int)) = true := by simpa using hi
    refine ⟨?_, by split
                   · simp; omega
                   · omega⟩
    unfold dcode_PutDots_o_l0
    simp only [hd, cond_true, idx_nat hx, pure_bind, V.dot_Good_eq, det_pure, wSucc (show i < 9223372036854775807 by omega)]
    by_cases c : V.goodD x = true
    · rw [c, cond_true, need_true (by simp; omega), pure_bind, if_pos rfl]
    · simp only [Bool.not_eq_true] at c
      rw [c, cond_false, pure_bind]; rfl) (fun t _ => by
    unfold dcode_PutDots_o_l0
    simp [pure_bind]) [] (by simp)
  rw [show (0 : Int) = ((0 : Nat) : Int) from rfl, this]
  congr 1
  have key : ∀ (l t : List TDot), l.foldl (fun t d => if V.goodD d = true then t ++ [d] else t) t = t ++ goods l := by
    intro l
    induction l with
    | nil => intro t; simp [goods]
    | cons x r ih =>
      intro t
      rw [List.foldl_cons, ih]
      unfold goods
      by_cases c : V.goodD x = true
      · rw [if_pos c, List.filter_cons_of_pos c, List.append_assoc]; rfl
      · rw [if_neg c, List.filter_cons_of_neg c]
  simpa using key l []
theorem good_mem {l : List TDot} {d : TDot} : d ∈ sortD (goods l) ↔ d ∈ l ∧ V.goodD d = true := by rw [sort_mem, goods, List.mem_filter]
theorem good_len (l : List TDot) : (sortD (goods l)).length ≤ l.length := Nat.le_trans (sort_len _) (List.length_filter_le _ _)
theorem okD_good {l : List TDot} (h : ∀ d ∈ l, OkD d) : ∀ d ∈ sortD (goods l), OkD d := fun d hd => h d (good_mem.1 hd).1
theorem encDs_len {l : List TDot} (h : ∀ d ∈ l, OkD d) (hl : l.length ≤ 1000000000000) : (encDs l).length ≤ 9 + 18 * l.length := by
  have h1 := N.encI_len (v := ((sortD (goods l)).length : Int)) (by have := good_len l; omega)
  have h2 := flat_len (sortD (goods l)) encD 18 fun x hx => encD_len (okD_good h x hx)
  have h3 := good_len l
  rw [encDs, List.length_append]; omega
theorem PutDots_eq {l : List TDot} (h : ∀ d ∈ l, OkD d) (hl : l.length ≤ 1000000000) (row : List Int) (hr : row.length ≤ 100000000000) : dcode_PutDots_o l row = pure (row ++ encDs l) := by
  have h3 := good_len l
  have h1 := N.encI_len (v := ((sortD (goods l)).length : Int)) (by omega)
  have h2 := flat_len (sortD (goods l)) encD 18 fun x hx => encD_len (okD_good h x hx)
  unfold dcode_PutDots_o
  rw [good_loop l (by omega), pure_bind, Sort_eq _ (by have := List.length_filter_le V.goodD l; unfold goods; omega), det_pure, pure_bind, wU64 (by omega) (by omega), N.WNum_eq row (by omega) (by omega) (by omega), det_pure, pure_bind]
  have := loopApp (body := dcode_PutDots_o_l1 (sortD (goods l))) (sortD (goods l)) encD (row ++ N.encI ((sortD (goods l)).length : Int)) 1000000000000 (fun i out => ((i : Int), out)) (fun t => pure t) (by rw [List.length_append]; omega) (fun i x out hx hi ho => by
    have hd : decide ((i : Int) < ((sortD (goods l)).length : Int)) = true := by simpa using hi
    unfold dcode_PutDots_o_l1
    simp only [hd, cond_true, idx_nat hx, pure_bind, PutDot_eq (okD_good h x (List.mem_of_getElem? hx)) out (by omega), det_pure, wSucc (show i < 9223372036854775807 by omega)]) (fun out => by
    unfold dcode_PutDots_o_l1
    simp [pure_bind])
  rw [show (0 : Int) = ((0 : Nat) : Int) from rfl, this, encDs, List.append_assoc]
def encR (x : TRun) : List Int := N.encI x.lo ++ N.encI x.hi
def encP (p : TPart) : List Int := N.encI p.dev ++ (N.encI p.runs.length ++ p.runs.flatMap encR)
def encN (c : List TPart) : List Int := N.encI c.length ++ c.flatMap encP
def encC (c : List TPart) : List Int := encN (C.normC c)
structure OkP (p : TPart) : Prop where
  d0 : 0 ≤ p.dev
  d1 : p.dev ≤ 65535
  r : ∀ x ∈ p.runs, (0 ≤ x.lo ∧ x.lo ≤ 18446744073709551615) ∧ 0 ≤ x.hi ∧ x.hi ≤ 18446744073709551615
theorem encR_len {x : TRun} (h : (0 ≤ x.lo ∧ x.lo ≤ 18446744073709551615) ∧ 0 ≤ x.hi ∧ x.hi ≤ 18446744073709551615) : (encR x).length ≤ 18 := by
  have h1 := N.encI_len h.1.2
  have h2 := N.encI_len h.2.2
  rw [encR, List.length_append]; omega
theorem encP_len {p : TPart} (h : OkP p) (hl : p.runs.length ≤ 1000000000000) : (encP p).length ≤ 18 + 18 * p.runs.length := by
  have h1 := N.encI_len (v := p.dev) (by have := h.d1; omega)
  have h2 := N.encI_len (v := (p.runs.length : Int)) (by omega)
  have h3 := flat_len p.runs encR 18 fun x hx => encR_len (h.r x hx)
  rw [encP, List.length_append, List.length_append]; omega
theorem flatP_len (c : List TPart) (h : ∀ p ∈ c, OkP p) (hl : C.totC c ≤ 1000000000000) : (c.flatMap encP).length ≤ 18 * c.length + 18 * C.totC c := by
  induction c with
  | nil => simp
  | cons p r ih =>
    have e : C.totC (p :: r) = p.runs.length + C.totC r := by simp [C.totC]
    have h1 := encP_len (h p (by simp)) (by omega)
    have h2 := ih (fun q hq => h q (by simp [hq])) (by omega)
    rw [List.flatMap_cons, List.length_append, List.length_cons, e]; omega
theorem encN_len {c : List TPart} (h : ∀ p ∈ c, OkP p) (hc : c.length ≤ 1000000000000) (hl : C.totC c ≤ 1000000000000) : (encN c).length ≤ 9 + 18 * c.length + 18 * C.totC c := by
  have h1 := N.encI_len (v := (c.length : Int)) (by omega)
  have h2 := flatP_len c h hl
  rw [encN, List.length_append]; omega
theorem okP_norm {c : List TPart} (h : ∀ p ∈ c, p.dev ≤ 65535) : ∀ p ∈ C.normC c, OkP p := fun p hp => by
  have h1 := (C.canon_norm c).nf p hp
  refine ⟨by omega, ?_, fun x hx => ?_⟩
  · have h2 := (C.mem_partsOf.1 hp).1
    obtain ⟨q, hq, e⟩ := (C.mem_devs.1 h2).1
    rw [← e]; exact h q hq
  · have := R.mayR_iff.1 (h1.2.2.may x hx)
    omega


theorem PutCtx_eq {c : List TPart} (ho : C.Ok c) (h : ∀ p ∈ c, p.dev ≤ 65535) (hs : c.length ≤ 100000000 ∧ C.totC c ≤ 100000000) (row : List Int) (hr : row.length ≤ 100000000000) : dcode_PutCtx_o c row = pure (row ++ encC c) := by
  have hn := C.len_normC c
  have ht := C.tot_normC c
  have hp := okP_norm h
  have hl := encN_len hp (by omega) (by omega)
  have h9 := N.encI_len (v := ((C.normC c).length : Int)) (by omega)
  have hf := flatP_len (C.normC c) hp (by omega)
  unfold dcode_PutCtx_o
  rw [C.Norm_eq c ho.sm, det_pure, pure_bind, wU64 (by omega) (by omega), N.WNum_eq row (by omega) (by omega) (by omega), det_pure, pure_bind]
  have := loopApp (body := dcode_PutCtx_o_l1 (C.normC c)) (C.normC c) encP (row ++ N.encI ((C.normC c).length : Int)) 1000000000000 (fun i out => ((i : Int), out)) (fun t => pure t) (by rw [List.length_append]; omega) (fun i p out hx hi hout => by
    have hd : decide ((i : Int) < ((C.normC c).length : Int)) = true := by simpa using hi
    have hm := List.mem_of_getElem? hx
    have hpp := hp p hm
    have hrl : p.runs.length ≤ 1000000000 := by have := C.run_le p hm; omega
    have e1 := N.encI_len (v := p.dev) (by have := hpp.d1; omega)
    have e2 := N.encI_len (v := (p.runs.length : Int)) (by omega)
    have e3 := flat_len p.runs encR 18 fun x hx => encR_len (hpp.r x hx)
    unfold dcode_PutCtx_o_l1
    simp only [hd, cond_true, idx_nat hx, pure_bind]
    rw [wU64 hpp.d0 (by have := hpp.d1; omega), N.WNum_eq out hpp.d0 (by have := hpp.d1; omega) (by omega), det_pure, pure_bind, wU64 (by omega) (by omega), N.WNum_eq _ (by omega) (by omega) (by rw [List.length_append]; omega), det_pure, pure_bind]
    have := loopApp (body := dcode_PutCtx_o_l0 p) p.runs encR (out ++ N.encI p.dev ++ N.encI (p.runs.length : Int)) 2000000000000 (fun i out => ((i : Int), out)) (fun t => pure t) (by rw [List.length_append, List.length_append]; omega) (fun j x out2 hx2 hj hout2 => by
      have hd2 : decide ((j : Int) < (p.runs.length : Int)) = true := by simpa using hj
      have hxr := hpp.r x (List.mem_of_getElem? hx2)
      have e4 := N.encI_len hxr.1.2
      unfold dcode_PutCtx_o_l0
      simp only [hd2, cond_true, idx_nat hx2, pure_bind]
      rw [N.WNum_eq out2 hxr.1.1 hxr.1.2 (by omega), det_pure, pure_bind, N.WNum_eq _ hxr.2.1 hxr.2.2 (by rw [List.length_append]; omega), det_pure, pure_bind, wSucc (show j < 9223372036854775807 by omega), encR, List.append_assoc]) (fun out => by
      unfold dcode_PutCtx_o_l0
      simp [pure_bind])
    rw [show (0 : Int) = ((0 : Nat) : Int) from rfl, this, pure_bind, wSucc (show i < 9223372036854775807 by omega), encP]
    simp only [List.append_assoc]) (fun out => by
    unfold dcode_PutCtx_o_l1
    simp [pure_bind])
  rw [show (0 : Int) = ((0 : Nat) : Int) from rfl, this, encC, encN, List.append_assoc]
theorem encC_len {c : List TPart} (h : ∀ p ∈ c, p.dev ≤ 65535) (hs : c.length ≤ 100000000 ∧ C.totC c ≤ 100000000) : (encC c).length ≤ 10000000000 := by
  have hn := C.len_normC c
  have ht := C.tot_normC c
  have hl := encN_len (okP_norm h) (by omega) (by omega)
  rw [encC]; omega
theorem Encode_eq {c : List TPart} (ho : C.Ok c) (h : ∀ p ∈ c, p.dev ≤ 65535) (hs : c.length ≤ 100000000 ∧ C.totC c ≤ 100000000) : dcode_Encode c = pure (encC c) := by
  have := encC_len h hs
  unfold dcode_Encode
  rw [PutCtx_eq ho h hs [] (by simp), det_pure, pure_bind, List.nil_append, N.Bytes_eq _ (by omega), det_pure, pure_bind]
theorem by_encC (c : List TPart) (h : ∀ p ∈ C.normC c, OkP p) (hl : (C.normC c).length ≤ 1000000000000 ∧ C.totC (C.normC c) ≤ 1000000000000) : N.By (encC c) := by
  have hR : ∀ p, OkP p → ∀ x ∈ p.runs, N.By (encR x) := fun p hp x hx => (N.by_enc (hp.r x hx).1.2).app (N.by_enc (hp.r x hx).2.2)
  have flat : ∀ {ε : Type} (l : List ε) (f : ε → List Int), (∀ x ∈ l, N.By (f x)) → N.By (l.flatMap f) := fun l f hf y hy => by
    obtain ⟨x, hx, h⟩ := List.mem_flatMap.1 hy
    exact hf x hx y h
  refine (N.by_enc (by omega)).app (flat _ _ fun p hp => ?_)
  have hpp := h p hp
  have := C.run_le p hp
  exact (N.by_enc (by have := hpp.d1; omega)).app ((N.by_enc (by omega)).app (flat _ _ (hR p hpp)))
theorem equal_eq {a b : List Int} : l15_equal a b = pure (decide (strL a = strL b)) := rfl
theorem ctx_one : C.normC [⟨1, [⟨1, 2⟩]⟩] = [⟨1, [⟨1, 2⟩]⟩] := (C.Canon.eq_norm ⟨by simp [C.OrdP], fun p hp => by
  rw [List.mem_singleton.1 hp]
  exact ⟨by decide, by simp, by simp [R.Nf, R.mayR_iff]⟩⟩).symm
theorem works_eq : l15_works = pure true := by
  unfold l15_works
  have ho : C.Ok [⟨1, [⟨1, 2⟩]⟩] := ⟨fun p hp => by rw [List.mem_singleton.1 hp]; decide, by simp, by simp [C.totC]⟩
  rw [Encode_eq ho (fun p hp => by rw [List.mem_singleton.1 hp]; decide) (by simp [C.totC]), det_pure, pure_bind, equal_eq, det_pure, pure_bind]
  have e : encC [⟨1, [⟨1, 2⟩]⟩] = [1, 1, 1, 1, 1, 1, 1, 1, 1, 2] := by
    rw [encC, ctx_one]
    have e1 : N.encI 1 = [1, 1] := by
      show (N.lenN 1 : Int) :: N.be 1 (N.lenN 1) = _
      have : N.lenN 1 = 1 := by rw [N.lenN_pos (by decide), show 1 / 256 = 0 from rfl, N.lenN_zero]
      rw [this]; rfl
    have e2 : N.encI 2 = [1, 2] := by
      show (N.lenN 2 : Int) :: N.be 2 (N.lenN 2) = _
      have : N.lenN 2 = 1 := by rw [N.lenN_pos (by decide), show 2 / 256 = 0 from rfl, N.lenN_zero]
      rw [this]; rfl
    simp [encN, encP, encR, e1, e2]
  rw [e]; simp
open N (RS Ok numS uptoS failS endS OkB Sim)

def bad4 (c : Bool) (s : RS) : RS := if c = true then failS 4 s else s
def fin {α : Type} (z x : α) (t : RS) : α × RS := if t.2 ≠ 0 then (z, t) else (x, t)
theorem fail_le (e : Int) (s : RS) : (failS e s).1.length ≤ s.1.length := by unfold failS; split <;> simp
theorem ok_bad4 {s : RS} (h : Ok s) (c : Bool) : Ok (bad4 c s) := by unfold bad4; split; exact N.ok_fail h _; exact h
theorem bad4_ok {c : Bool} {s : RS} (h : (bad4 c s).2 = 0) : c = false ∧ s.2 = 0 ∧ bad4 c s = s := by
  unfold bad4 at h ⊢
  cases c with
  | true => exact absurd h (N.fail_bad (by decide))
  | false => exact ⟨rfl, h, rfl⟩
theorem bad4_true {s : RS} : (bad4 true s).2 ≠ 0 := N.fail_bad (by decide)
theorem bad4_false {s : RS} : bad4 false s = s := rfl
theorem fin_st {α : Type} (z x : α) (t : RS) : (fin z x t).2 = t := by unfold fin; split <;> rfl
theorem fin_ok {α : Type} {z x : α} {t : RS} (h : t.2 = 0) : fin z x t = (x, t) := if_neg (by simp [h])
theorem fin_bad {α : Type} {z x : α} {t : RS} (h : t.2 ≠ 0) : fin z x t = (z, t) := if_pos h
theorem pbad_eq (c : Bool) (s : RS) : ((cond c ((det (pack_Reader_Fail_o 4 s.1 s.2)).bind fun y => pure (y.1, y.2)) (pure (s.1, s.2))) : M RS) = pure (bad4 c s) := by
  cases c with
  | true => rw [cond_true, N.Fail_eq, det_pure, pure_bind]; rfl
  | false => rfl
theorem pbad_neg (c : Bool) (s : RS) : ((cond (!c) ((det (pack_Reader_Fail_o 4 s.1 s.2)).bind fun y => pure (y.1, y.2)) (pure (s.1, s.2))) : M RS) = pure (bad4 (!c) s) := pbad_eq (!c) s
theorem pfin_eq {α : Type} (z x : α) (t : RS) : ((det (pack_Reader_Err_o t.1 t.2)).bind fun y => (cond (!decide (y.1 = 0)) (pure (z, y.2.1, y.2.2)) (pure (x, y.2.1, y.2.2)) : M (α × List Int × Int))) = pure (fin z x t) := by
  rw [N.Err_eq, det_pure, pure_bind]
  by_cases h : t.2 = 0
  · rw [fin_ok h, decide_eq_true h]; rfl
  · rw [fin_bad h, decide_eq_false h]; rfl
theorem num_le (s : RS) : (numS s).2.1.length ≤ s.1.length := by
  unfold numS
  split
  · exact Nat.le_refl _
  · split
    · exact fail_le _ _
    · simp
theorem num_lt {s : RS} (hO : Ok s) (h0 : s.2 = 0) (h : (numS s).2.2 = 0) : (numS s).2.1.length + 1 ≤ s.1.length := by
  unfold numS at h ⊢
  rw [if_neg (by simp [h0])] at h ⊢
  by_cases c : (N.rdN s.1).2.2 = 0
  · rw [if_neg (by simp [c])]
    rcases N.rdN_cases s.1 hO.by_ with (h1 | h1) | ⟨n, r, h1, h2, h3, h4, _, h5⟩
    · rw [h1] at c; simp at c
    · rw [h1] at c; simp at c
    · rw [h5, h1]; simp
  · rw [if_pos c] at h
    exact absurd h (N.fail_bad c)
theorem num_zero {s : RS} (h : (numS s).2.2 ≠ 0) : (numS s).1 = 0 := by
  unfold numS at h ⊢
  by_cases c : s.2 ≠ 0
  · rw [if_pos c]
  · rw [if_neg c] at h ⊢
    by_cases c2 : (N.rdN s.1).2.2 ≠ 0
    · rw [if_pos c2]
    · rw [if_neg c2] at h; exact absurd rfl h
theorem num_bad {s : RS} (h : s.2 ≠ 0) : (numS s).2 = s := by rw [N.num_of h]
theorem num_ok {s : RS} (h : (numS s).2.2 = 0) : s.2 = 0 := Classical.byContradiction fun c => by rw [num_bad c] at h; exact c h
theorem upto_ok {m : Int} {s : RS} (h : (uptoS m s).2.2 = 0) : (numS s).2.2 = 0 ∧ uptoS m s = numS s := by
  unfold uptoS at h ⊢
  by_cases c : m < (numS s).1
  · rw [if_pos c] at h; exact absurd h (N.fail_bad (by decide))
  · rw [if_neg c] at h ⊢; exact ⟨h, rfl⟩

def dotR (s : RS) : TDot := ⟨(uptoS 65535 s).1, (numS (uptoS 65535 s).2).1⟩
def dotT (s : RS) : RS := bad4 (!V.goodD (dotR s)) (numS (uptoS 65535 s).2).2
def dotS (s : RS) : TDot × RS := fin ⟨0, 0⟩ (dotR s) (dotT s)
theorem ok_dot {s : RS} (h : Ok s) : Ok (dotS s).2 ∧ OkD (dotS s).1 ∧ OkD (dotR s) := by
  obtain ⟨h1, h2, h3⟩ := N.ok_upto h (m := 65535) (by decide)
  obtain ⟨h4, h5, h6⟩ := N.ok_num h1
  have ht : Ok (dotT s) := ok_bad4 h4 _
  have hr : OkD (dotR s) := ⟨h2, h3, h5, h6⟩
  unfold dotS
  by_cases c : (dotT s).2 = 0
  · rw [fin_ok c]; exact ⟨ht, hr, hr⟩
  · rw [fin_bad c]; exact ⟨ht, ⟨Int.le_refl _, by simp, Int.le_refl _, by simp⟩, hr⟩
theorem dot_ok {s : RS} (h : (dotS s).2.2 = 0) : V.goodD (dotS s).1 = true ∧ (uptoS 65535 s).2.2 = 0 ∧ (numS (uptoS 65535 s).2).2.2 = 0 ∧ dotS s = (dotR s, (numS (uptoS 65535 s).2).2) := by
  unfold dotS at h ⊢
  rw [fin_st] at h
  rw [fin_ok h]
  obtain ⟨h1, h2, h3⟩ := bad4_ok h
  refine ⟨by simpa using h1, num_ok h2, h2, ?_⟩
  show (dotR s, dotT s) = _
  rw [show dotT s = (numS (uptoS 65535 s).2).2 from h3]
theorem dot_lt {s : RS} (hO : Ok s) (h0 : s.2 = 0) (h : (dotS s).2.2 = 0) : (dotS s).2.1.length + 1 ≤ s.1.length := by
  obtain ⟨_, h1, h2, h3⟩ := dot_ok h
  obtain ⟨h4, h5⟩ := upto_ok h1
  rw [h3]
  have h6 := num_le (uptoS 65535 s).2
  rw [h5] at h6 ⊢
  have h7 := num_lt hO h0 h4
  exact Nat.le_trans (Nat.add_le_add_right h6 1) h7
theorem Dot_eq {s : RS} (h : Ok s) : dcode_Dot_o s.1 s.2 = pure (dotS s) := by
  obtain ⟨h1, h2, h3⟩ := N.ok_upto h (m := 65535) (by decide)
  unfold dcode_Dot_o dotS
  rw [N.Upto_eq h, det_pure, pure_bind, N.Num_eq h1, det_pure, pure_bind, wU16 h2 h3, V.dot_Good_eq, det_pure, pure_bind]
  have e := pbad_neg (V.goodD (dotR s)) (numS (uptoS 65535 s).2).2
  unfold dotR at e
  rw [e, pure_bind]
  exact pfin_eq _ _ _
variable {B : List Int} {a : Int} {s : RS}
def lastGe (out : List TDot) (x : TDot) : Bool := match out.getLast? with | some y => decide (0 ≤ V.cmpD y x) | none => false
def dotsT (out : List TDot) (s : RS) : RS := bad4 (lastGe out (dotS s).1) (dotS s).2
def dotsL : Nat → List TDot → RS → List TDot × RS
  | 0, out, s => (out, s)
  | k + 1, out, s => if (dotsT out s).2 ≠ 0 then ([], dotsT out s) else dotsL k (out ++ [(dotS s).1]) (dotsT out s)
def dotsS (most : Int) (s : RS) : List TDot × RS := if max most 0 < (numS s).1 then ([], failS 3 (numS s).2) else dotsL (numS s).1.toNat [] (numS s).2
theorem dotsL_bad {k : Nat} {out : List TDot} {s : RS} (h : (dotsT out s).2 ≠ 0) : dotsL (k + 1) out s = ([], dotsT out s) := if_pos h
theorem dotsL_next {k : Nat} {out : List TDot} {s : RS} (h : (dotsT out s).2 = 0) : dotsL (k + 1) out s = dotsL k (out ++ [(dotS s).1]) (dotsT out s) := if_neg (by simp [h])
theorem ok_dotsT {s : RS} (h : Ok s) (out : List TDot) : Ok (dotsT out s) := ok_bad4 (ok_dot h).1 _
theorem ok_dotsL : ∀ (k : Nat) (out : List TDot) (s : RS), Ok s → Ok (dotsL k out s).2
  | 0, _, _, h => h
  | k + 1, out, s, h => by
    by_cases c : (dotsT out s).2 = 0
    · rw [dotsL_next c]; exact ok_dotsL k _ _ (ok_dotsT h out)
    · rw [dotsL_bad c]; exact ok_dotsT h out
theorem ok_dots {s : RS} (h : Ok s) (most : Int) : Ok (dotsS most s).2 := by
  have h1 := N.ok_num h
  unfold dotsS
  split
  · exact N.ok_fail h1.1 _
  · exact ok_dotsL _ _ _ h1.1
theorem last_idx {out : List TDot} (h : out.length ≤ 1000000000000) (x : TDot) (cmp : TDot → TDot → M Int) (hc : ∀ y, cmp y x = pure (V.cmpD y x)) :
    ((cond (decide (0 ≤ IntKind.i64.wrap ((out.length : Int) - 1))) ((idx out (IntKind.i64.wrap ((out.length : Int) - 1))).bind fun x61 => (det (cmp x61 x)).bind fun v63 => pure (decide (0 ≤ v63))) (pure false)) : M Bool) = pure (lastGe out x) := by
  unfold lastGe
  rcases R.snoc_cases out with rfl | ⟨r, y, rfl⟩
  · rfl
  · have hl : ((r ++ [y]).length : Int) - 1 = (r.length : Int) := by simp
    rw [hl, wI64 (by omega) (by simp at h; omega)]
    have : decide ((0 : Int) ≤ (r.length : Int)) = true := by simp
    rw [this, cond_true, idx_nat (y := y) (by simp), pure_bind, hc, det_pure, pure_bind]
    simp
theorem dotsT_ok {out : List TDot} {s : RS} (h : (dotsT out s).2 = 0) : lastGe out (dotS s).1 = false ∧ (dotS s).2.2 = 0 ∧ dotsT out s = (dotS s).2 := bad4_ok h
theorem dots_loop {y4 : Int × List Int × Int} (hn : 0 ≤ y4.1 ∧ y4.1 ≤ 18446744073709551615) : ∀ (k i : Nat) (out : List TDot) (s : RS), (i : Int) + k = y4.1 → Ok s → s.2 = 0 → out.length + s.1.length ≤ 1000000000 →
    (loop (dcode_Dots_o_l0 y4) ((i : Int), out, s.1, s.2)).bind (exk fun ⟨out9, v10, v11⟩ => pure (out9, v10, v11)) = pure (dotsL k out s)
  | 0, i, out, s, hi, _, _, _ => by
    rw [loop_done (r := .brk (out, s.1, s.2)) (by
      unfold dcode_Dots_o_l0
      have : decide ((i : Int) < y4.1) = false := by simp; omega
      simp only [this, cond_false])]
    rfl
  | k + 1, i, out, s, hi, hO, h0, hl => by
    have hd := ok_dot hO
    have hc : decide ((i : Int) < y4.1) = true := by simp; omega
    have hlast := last_idx (out := out) (by omega) (dotS s).1 dot_Cmp (fun y => Cmp_eq y _)
    have hw : IntKind.u64.wrap ((i : Int) + 1) = ((i + 1 : Nat) : Int) := by rw [wU64 (by omega) (by omega)]; omega
    have hb : dcode_Dots_o_l0 y4 ((i : Int), out, s.1, s.2) = (det (pack_Reader_Err_o (dotsT out s).1 (dotsT out s).2)).bind fun y70 => cond (!decide (y70.1 = 0)) (pure (.done (.ret ([], y70.2.1, y70.2.2)))) (need ((out.length + [(dotS s).1].length) * 16 ≤ 140737488355328) (pure (.next (IntKind.u64.wrap ((i : Int) + 1), out ++ [(dotS s).1], y70.2.1, y70.2.2)))) := by
      unfold dcode_Dots_o_l0
      have e := pbad_eq (lastGe out (dotS s).1) (dotS s).2
      simp only [hc, cond_true, Dot_eq hO, det_pure, pure_bind]
      rw [hlast, pure_bind, e, pure_bind]
      rfl
    rw [N.Err_eq, det_pure, pure_bind] at hb
    by_cases c : (dotsT out s).2 = 0
    · obtain ⟨_, c2, c3⟩ := dotsT_ok c
      have hlt := dot_lt hO h0 c2
      rw [decide_eq_true c, Bool.not_true, cond_false, need_true (by simp; omega), hw] at hb
      rw [loop_next hb, dotsL_next c]
      exact dots_loop hn k (i + 1) _ (dotsT out s) (by omega) (ok_dotsT hO out) c (by rw [c3]; simp; omega)
    · rw [decide_eq_false c, Bool.not_false, cond_true] at hb
      rw [loop_done hb, dotsL_bad c]
      rfl
theorem Dots_eq {s : RS} (hO : Ok s) {most : Int} (hm : most ≤ 9223372036854775807) : dcode_Dots_o most s.1 s.2 = pure (dotsS most s) := by
  obtain ⟨h1, h2, h3⟩ := N.ok_num hO
  unfold dcode_Dots_o dotsS
  rw [N.Num_eq hO, det_pure, pure_bind, wU64 (n := max most 0) (by omega) (by omega)]
  by_cases c : max most 0 < (numS s).1
  · rw [decide_eq_true c, cond_true, if_pos c, N.Fail_eq 3 (numS s).2, det_pure, pure_bind]
  · rw [decide_eq_false c, cond_false, if_neg c]
    by_cases c2 : (numS s).2.2 = 0
    · exact dots_loop (y4 := numS s) ⟨h2, h3⟩ (numS s).1.toNat 0 [] (numS s).2 (by omega) h1 c2 (by simp; have := h1.len; omega)
    · have hz := num_zero c2
      rw [hz, loop_done (r := .brk ([], (numS s).2.1, (numS s).2.2)) (by
        unfold dcode_Dots_o_l0
        simp only [hz, show decide ((0 : Int) < 0) = false from rfl, cond_false])]
      rfl
open N (RS Ok numS uptoS failS endS OkB Sim)

def runsL : Nat → List TRun → RS → List TRun × RS
  | 0, out, s => (out, s)
  | k + 1, out, s =>
    if (numS (numS s).2).2.2 ≠ 0 then (out ++ [⟨(numS s).1, (numS (numS s).2).1⟩], (numS (numS s).2).2) else runsL k (out ++ [⟨(numS s).1, (numS (numS s).2).1⟩]) (numS (numS s).2).2
def partS (s : RS) : TPart × RS := (⟨(uptoS 65535 s).1, (runsL (numS (uptoS 65535 s).2).1.toNat [] (numS (uptoS 65535 s).2).2).1⟩, (runsL (numS (uptoS 65535 s).2).1.toNat [] (numS (uptoS 65535 s).2).2).2)
theorem runsL_bad {k : Nat} {out : List TRun} {s : RS} (h : (numS (numS s).2).2.2 ≠ 0) : runsL (k + 1) out s = (out ++ [⟨(numS s).1, (numS (numS s).2).1⟩], (numS (numS s).2).2) := if_pos h
theorem runsL_next {k : Nat} {out : List TRun} {s : RS} (h : (numS (numS s).2).2.2 = 0) : runsL (k + 1) out s = runsL k (out ++ [⟨(numS s).1, (numS (numS s).2).1⟩]) (numS (numS s).2).2 := if_neg (by simp [h])
theorem two_lt {s : RS} (hO : Ok s) (h0 : s.2 = 0) (h : (numS (numS s).2).2.2 = 0) : (numS (numS s).2).2.1.length + 2 ≤ s.1.length := by
  have h1 := num_ok h
  have h2 := num_lt hO h0 h1
  have h3 := num_lt (N.ok_num hO).1 h1 h
  omega
theorem two_le (s : RS) : (numS (numS s).2).2.1.length ≤ s.1.length := Nat.le_trans (num_le _) (num_le _)
def RunOk (x : TRun) : Prop := (0 ≤ x.lo ∧ x.lo ≤ 18446744073709551615) ∧ 0 ≤ x.hi ∧ x.hi ≤ 18446744073709551615
theorem ok_two {s : RS} (h : Ok s) : Ok (numS (numS s).2).2 ∧ RunOk ⟨(numS s).1, (numS (numS s).2).1⟩ := by
  obtain ⟨h1, h2, h3⟩ := N.ok_num h
  obtain ⟨h4, h5, h6⟩ := N.ok_num h1
  exact ⟨h4, ⟨h2, h3⟩, h5, h6⟩
theorem runsL_props : ∀ (k : Nat) (out : List TRun) (s : RS), Ok s → s.2 = 0 → (∀ x ∈ out, RunOk x) → Ok (runsL k out s).2 ∧ (∀ x ∈ (runsL k out s).1, RunOk x) ∧ (runsL k out s).1.length + (runsL k out s).2.1.length ≤ out.length + s.1.length + 1 ∧
    ((runsL k out s).2.2 = 0 → (runsL k out s).1.length + (runsL k out s).2.1.length ≤ out.length + s.1.length ∧ (runsL k out s).1.length = out.length + k)
  | 0, out, s, h, _, ho => ⟨h, ho, by show out.length + s.1.length ≤ _; omega, fun _ => ⟨Nat.le_refl _, rfl⟩⟩
  | k + 1, out, s, h, h0, ho => by
    obtain ⟨h1, h2⟩ := ok_two h
    have ho' : ∀ x ∈ out ++ [⟨(numS s).1, (numS (numS s).2).1⟩], RunOk x := fun x hx => by
      rcases List.mem_append.1 hx with h | h
      · exact ho x h
      · rw [List.mem_singleton.1 h]; exact h2
    by_cases c : (numS (numS s).2).2.2 = 0
    · rw [runsL_next c]
      obtain ⟨q1, q2, q3, q4⟩ := runsL_props k _ _ h1 c ho'
      have hlt := two_lt h h0 c
      simp only [List.length_append, List.length_singleton] at q3 q4
      refine ⟨q1, q2, by omega, fun hz => ?_⟩
      have := q4 hz
      omega
    · rw [runsL_bad c]
      have := two_le s
      exact ⟨h1, ho', by simp; omega, fun hz => absurd hz c⟩
theorem part_loop {y5 : Int × List Int × Int} (hn : 0 ≤ y5.1 ∧ y5.1 ≤ 18446744073709551615) : ∀ (k i : Nat) (out : List TRun) (s : RS), (i : Int) + k = y5.1 → Ok s → s.2 = 0 → out.length + s.1.length ≤ 1000000000 →
    loop (dcode_part_o_l0 y5) ((i : Int), out, s.1, s.2) = pure (runsL k out s)
  | 0, i, out, s, hi, _, _, _ => by
    exact loop_done (by
      unfold dcode_part_o_l0
      have : decide ((i : Int) < y5.1) = false := by simp; omega
      simp only [this, cond_false]
      rfl)
  | k + 1, i, out, s, hi, hO, h0, hl => by
    obtain ⟨h1, h2, h3⟩ := N.ok_num hO
    have hc : decide ((i : Int) < y5.1) = true := by simp; omega
    have hw : IntKind.u64.wrap ((i : Int) + 1) = ((i + 1 : Nat) : Int) := by rw [wU64 (by omega) (by omega)]; omega
    have hb : dcode_part_o_l0 y5 ((i : Int), out, s.1, s.2) = cond (!decide ((numS (numS s).2).2.2 = 0)) (pure (.done (out ++ [⟨(numS s).1, (numS (numS s).2).1⟩], (numS (numS s).2).2))) (pure (.next (((i + 1 : Nat) : Int), out ++ [⟨(numS s).1, (numS (numS s).2).1⟩], (numS (numS s).2).2.1, (numS (numS s).2).2.2))) := by
      unfold dcode_part_o_l0
      simp only [hc, cond_true, N.Num_eq hO, N.Num_eq h1, det_pure, pure_bind, N.Err_eq]
      rw [need_true (by simp; omega), hw]
    by_cases c : (numS (numS s).2).2.2 = 0
    · have hlt := two_lt hO h0 c
      rw [decide_eq_true c, Bool.not_true, cond_false] at hb
      rw [loop_next hb, runsL_next c]
      exact part_loop hn k (i + 1) _ (numS (numS s).2).2 (by omega) (ok_two hO).1 c (by simp; omega)
    · rw [decide_eq_false c, Bool.not_false, cond_true] at hb
      rw [loop_done hb, runsL_bad c]
theorem part_eq {s : RS} (hO : Ok s) : dcode_part_o s.1 s.2 = pure (partS s) := by
  obtain ⟨h1, h2, h3⟩ := N.ok_upto hO (m := 65535) (by decide)
  obtain ⟨h4, h5, h6⟩ := N.ok_num h1
  unfold dcode_part_o partS
  rw [N.Upto_eq hO, det_pure, pure_bind, N.Num_eq h1, det_pure, pure_bind, wU16 h2 h3]
  by_cases c : (numS (uptoS 65535 s).2).2.2 = 0
  · have := part_loop (y5 := numS (uptoS 65535 s).2) ⟨h5, h6⟩ (numS (uptoS 65535 s).2).1.toNat 0 [] (numS (uptoS 65535 s).2).2 (by omega) h4 c (by simp; have := h4.len; omega)
    rw [show ((0 : Nat) : Int) = 0 from rfl] at this
    rw [this, pure_bind]
  · have hz := num_zero c
    rw [hz, loop_done (r := ([], (numS (uptoS 65535 s).2).2)) (by
      unfold dcode_part_o_l0
      simp only [hz, show decide ((0 : Int) < 0) = false from rfl, cond_false]), pure_bind]
    rfl
theorem part_props {s : RS} (hO : Ok s) (h0 : s.2 = 0) : Ok (partS s).2 ∧ OkP (partS s).1 ∧ ((partS s).1.runs.length ≤ 1000000001) ∧ ((partS s).2.2 = 0 → (partS s).1.runs.length + (partS s).2.1.length + 2 ≤ s.1.length) := by
  obtain ⟨h1, h2, h3⟩ := N.ok_upto hO (m := 65535) (by decide)
  obtain ⟨h4, h5, h6⟩ := N.ok_num h1
  have hl := h4.len
  unfold partS
  by_cases c : (numS (uptoS 65535 s).2).2.2 = 0
  · obtain ⟨q1, q2, q3, q4⟩ := runsL_props (numS (uptoS 65535 s).2).1.toNat [] _ h4 c (by simp)
    refine ⟨q1, ⟨h2, h3, q2⟩, by simp at q3 ⊢; omega, fun hz => ?_⟩
    have hq := q4 hz
    obtain ⟨e1, e2⟩ := upto_ok (num_ok c)
    have h7 := num_lt hO h0 e1
    have h8 := num_lt h1 (num_ok c) c
    rw [e2] at h8 hq ⊢
    simp only [List.length_nil, Nat.zero_add] at hq ⊢
    omega
  · rw [num_zero c]
    refine ⟨h4, ⟨h2, h3, by intro x hx; cases hx⟩, by simp [runsL], fun hz => absurd hz c⟩
def ctxL : Nat → List TPart → RS → Bool × List TPart × RS
  | 0, out, s => (true, out, s)
  | k + 1, out, s => if (partS s).2.2 ≠ 0 then (false, [], (partS s).2) else ctxL k (out ++ [(partS s).1]) (partS s).2
def ctxS (s : RS) : List TPart × RS :=
  let r := ctxL (numS s).1.toNat [] (numS s).2
  if r.1 = true then fin [] r.2.1 (bad4 (!decide (r.2.1 = C.normC r.2.1)) r.2.2) else ([], r.2.2)
theorem ctxL_bad {k : Nat} {out : List TPart} {s : RS} (h : (partS s).2.2 ≠ 0) : ctxL (k + 1) out s = (false, [], (partS s).2) := if_pos h
theorem ctxL_next {k : Nat} {out : List TPart} {s : RS} (h : (partS s).2.2 = 0) : ctxL (k + 1) out s = ctxL k (out ++ [(partS s).1]) (partS s).2 := if_neg (by simp [h])
theorem tot_snoc (c : List TPart) (p : TPart) : C.totC (c ++ [p]) = C.totC c + p.runs.length := by rw [C.totC_app]; simp [C.totC]
theorem ctxL_props : ∀ (k : Nat) (out : List TPart) (s : RS), Ok s → s.2 = 0 → (∀ p ∈ out, OkP p) → out.length + C.totC out + s.1.length ≤ 1000000000 → Ok (ctxL k out s).2.2 ∧ (∀ p ∈ (ctxL k out s).2.1, OkP p) ∧ (ctxL k out s).2.1.length + C.totC (ctxL k out s).2.1 ≤ 1000000000 ∧
    ((ctxL k out s).1 = true ↔ (ctxL k out s).2.2.2 = 0) ∧ ((ctxL k out s).1 = true → (ctxL k out s).2.1.length = out.length + k ∧ (ctxL k out s).2.2.1.length ≤ s.1.length)
  | 0, out, s, h, h0, ho, hl => ⟨h, ho, by show out.length + C.totC out ≤ _; omega, ⟨fun _ => h0, fun _ => rfl⟩, fun _ => ⟨rfl, Nat.le_refl _⟩⟩
  | k + 1, out, s, h, h0, ho, hl => by
    obtain ⟨h1, h2, h3, h4⟩ := part_props h h0
    by_cases c : (partS s).2.2 = 0
    · rw [ctxL_next c]
      have := h4 c
      obtain ⟨q1, q2, q3, q4, q5⟩ := ctxL_props k (out ++ [(partS s).1]) (partS s).2 h1 c (fun p hp => by
        rcases List.mem_append.1 hp with h | h
        · exact ho p h
        · rw [List.mem_singleton.1 h]; exact h2) (by rw [tot_snoc]; simp; omega)
      refine ⟨q1, q2, q3, q4, fun hz => ?_⟩
      have := q5 hz
      simp at this; omega
    · rw [ctxL_bad c]
      exact ⟨h1, by simp, by simp [C.totC], ⟨fun h => (by cases h), fun h => absurd h c⟩, fun h => (by cases h)⟩
theorem ctxL_nil : ∀ (k : Nat) (out : List TPart) (s : RS), (ctxL k out s).1 = false → (ctxL k out s).2.1 = []
  | 0, out, s, h => by cases h
  | k + 1, out, s, h => by
    by_cases c : (partS s).2.2 = 0
    · rw [ctxL_next c] at h ⊢; exact ctxL_nil k _ _ h
    · rw [ctxL_bad c]
theorem ctx_loop {y3 : Int × List Int × Int} (hn : 0 ≤ y3.1 ∧ y3.1 ≤ 18446744073709551615) : ∀ (k i : Nat) (out : List TPart) (s : RS), (i : Int) + k = y3.1 → Ok s → s.2 = 0 → out.length + s.1.length ≤ 1000000000 →
    loop (dcode_Ctx_o_l0 y3) ((i : Int), out, s.1, s.2) = pure (if (ctxL k out s).1 = true then .brk (ctxL k out s).2 else .ret (ctxL k out s).2)
  | 0, i, out, s, hi, _, _, _ => by
    exact loop_done (by
      unfold dcode_Ctx_o_l0
      have : decide ((i : Int) < y3.1) = false := by simp; omega
      simp only [this, cond_false]
      rfl)
  | k + 1, i, out, s, hi, hO, h0, hl => by
    obtain ⟨h1, h2, h3, h4⟩ := part_props hO h0
    have hc : decide ((i : Int) < y3.1) = true := by simp; omega
    have hw : IntKind.u64.wrap ((i : Int) + 1) = ((i + 1 : Nat) : Int) := by rw [wU64 (by omega) (by omega)]; omega
    have hb : dcode_Ctx_o_l0 y3 ((i : Int), out, s.1, s.2) = cond (!decide ((partS s).2.2 = 0)) (pure (.done (.ret ([], (partS s).2)))) (pure (.next (((i + 1 : Nat) : Int), out ++ [(partS s).1], (partS s).2.1, (partS s).2.2))) := by
      unfold dcode_Ctx_o_l0
      simp only [hc, cond_true, part_eq hO, det_pure, pure_bind, N.Err_eq]
      rw [need_true (by simp; omega), hw]
    by_cases c : (partS s).2.2 = 0
    · have hlt := h4 c
      rw [decide_eq_true c, Bool.not_true, cond_false] at hb
      rw [loop_next hb, ctxL_next c]
      exact ctx_loop hn k (i + 1) _ (partS s).2 (by omega) h1 c (by simp; omega)
    · rw [decide_eq_false c, Bool.not_false, cond_true] at hb
      rw [loop_done hb, ctxL_bad c]
      rfl
theorem okC_of {c : List TPart} (h : ∀ p ∈ c, OkP p) (hl : c.length + C.totC c ≤ 1000000000) : C.Ok c := ⟨fun p hp => (h p hp).d0, by omega, by omega⟩
theorem Ctx_eq {s : RS} (hO : Ok s) : dcode_Ctx_o s.1 s.2 = pure (ctxS s) := by
  obtain ⟨h1, h2, h3⟩ := N.ok_num hO
  unfold dcode_Ctx_o ctxS
  rw [N.Num_eq hO, det_pure, pure_bind]
  have good : ∀ (c : List TPart) (t : RS), C.Ok c → ((det (ctx_Good c)).bind fun v37 => cond (!v37) ((det (pack_Reader_Fail_o 4 t.1 t.2)).bind fun y40 => pure (([] : List TPart), y40.1, y40.2)) (pure (c, t.1, t.2))) = pure (if decide (c = C.normC c) = true then (c, t) else ([], failS 4 t)) := fun c t hc => by
    rw [C.Good_eq c hc.sm, det_pure, pure_bind]
    cases decide (c = C.normC c) with
    | true => rfl
    | false => rw [Bool.not_false, cond_true, N.Fail_eq, det_pure, pure_bind]; rfl
  by_cases c2 : (numS s).2.2 = 0
  · have := ctx_loop (y3 := numS s) ⟨h2, h3⟩ (numS s).1.toNat 0 [] (numS s).2 (by omega) h1 c2 (by simp; have := h1.len; omega)
    rw [show ((0 : Nat) : Int) = 0 from rfl] at this
    rw [this, pure_bind]
    obtain ⟨q1, q2, q3, q4, _⟩ := ctxL_props (numS s).1.toNat [] (numS s).2 h1 c2 (by simp) (by simp [C.totC]; have := h1.len; omega)
    have qn := ctxL_nil (numS s).1.toNat [] (numS s).2
    generalize ctxL (numS s).1.toNat [] (numS s).2 = r at *
    obtain ⟨b, c, t⟩ := r
    simp only [] at *
    cases b with
    | false => rw [qn rfl]; rfl
    | true =>
      have hz := q4.1 rfl
      show ((det (ctx_Good c)).bind _) = _
      rw [good c t (okC_of q2 q3), if_pos rfl]
      cases hg : decide (c = C.normC c) with
      | true => rw [if_pos rfl, Bool.not_true, bad4_false, fin_ok hz]
      | false => rw [if_neg (by simp), Bool.not_false, fin_bad bad4_true]; rfl
  · have hz := num_zero c2
    rw [hz, loop_done (r := .brk ([], (numS s).2)) (by
      unfold dcode_Ctx_o_l0
      simp only [hz, show decide ((0 : Int) < 0) = false from rfl, cond_false]), pure_bind]
    show ((det (ctx_Good [])).bind _) = pure (if true = true then fin [] [] (bad4 (!decide (([] : List TPart) = C.normC [])) (numS s).2) else ([], (numS s).2))
    rw [good [] (numS s).2 C.ok_nil, if_pos rfl]
    have e : C.normC [] = [] := rfl
    rw [e]
    simp only [decide_true, if_true, Bool.not_true, bad4_false]
    rw [fin_bad c2]
theorem ctx_props {s : RS} (hO : Ok s) : Ok (ctxS s).2 ∧ (∀ p ∈ (ctxS s).1, OkP p) ∧ (ctxS s).1.length + C.totC (ctxS s).1 ≤ 1000000000 ∧ ((ctxS s).2.2 ≠ 0 → (ctxS s).1 = []) ∧ ((ctxS s).2.2 = 0 → (ctxS s).1 = C.normC (ctxS s).1) := by
  obtain ⟨h1, h2, h3⟩ := N.ok_num hO
  unfold ctxS
  by_cases c2 : (numS s).2.2 = 0
  · obtain ⟨q1, q2, q3, q4, _⟩ := ctxL_props (numS s).1.toNat [] (numS s).2 h1 c2 (by simp) (by simp [C.totC]; have := h1.len; omega)
    generalize ctxL (numS s).1.toNat [] (numS s).2 = r at *
    obtain ⟨b, c, t⟩ := r
    simp only [] at *
    cases b with
    | false => exact ⟨q1, by simp, by simp [C.totC], fun _ => rfl, fun _ => rfl⟩
    | true =>
      rw [if_pos rfl, fin_st]
      refine ⟨ok_bad4 q1 _, ?_⟩
      by_cases hb : (bad4 (!decide (c = C.normC c)) t).2 = 0
      · rw [fin_ok hb]
        have := (bad4_ok hb).1
        exact ⟨q2, q3, fun h => absurd hb h, fun _ => by simpa using this⟩
      · rw [fin_bad hb]
        exact ⟨by simp, by simp [C.totC], fun _ => rfl, fun h => absurd h hb⟩
  · rw [num_zero c2]
    show Ok (if true = true then fin [] [] (bad4 (!decide (([] : List TPart) = C.normC [])) (numS s).2) else ([], (numS s).2)).2 ∧ _
    have e : C.normC [] = [] := rfl
    simp only [ctxL, Int.toNat_zero, e, decide_true, Bool.not_true, bad4_false, if_true, fin_bad c2]
    exact ⟨h1, by simp, by simp [C.totC], fun _ => trivial, fun _ => trivial⟩

variable {B : List Int} {a : Int} {s : RS}
open N (RS Ok numS uptoS failS endS OkB Sim)

def riseB : List TDot → Bool
  | [] => true
  | x :: r => (match r with | [] => true | y :: _ => ltDot x y) && riseB r
theorem rise_iff : ∀ {l : List TDot}, riseB l = true ↔ Srt l
  | [] => ⟨fun _ => List.Pairwise.nil, fun _ => rfl⟩
  | [x] => ⟨fun _ => by simp [Srt], fun _ => rfl⟩
  | x :: y :: r => by
    show (ltDot x y && riseB (y :: r)) = true ↔ _
    rw [Bool.and_eq_true, rise_iff (l := y :: r)]
    unfold Srt
    rw [List.pairwise_cons (a := x)]
    constructor
    · rintro ⟨h1, h2⟩
      refine ⟨fun z hz => ?_, h2⟩
      rcases List.mem_cons.1 hz with rfl | hz
      · exact h1
      · exact lt_trans h1 ((List.pairwise_cons.1 h2).1 z hz)
    · rintro ⟨h1, h2⟩
      exact ⟨h1 y (by simp), h2⟩
theorem cmp_ge (x y : TDot) : decide (0 ≤ V.cmpD x y) = !ltDot x y := by
  by_cases h : ltDot x y = true
  · have := V.cmpD_neg.2 h
    rw [h]; simp; omega
  · have h2 : ¬ V.cmpD x y < 0 := fun e => h (V.cmpD_neg.1 e)
    simp only [Bool.not_eq_true] at h
    rw [h]; simp; omega
theorem rRising_eq (l : List TDot) (hl : l.length ≤ 1000000000000) : r07_Rising l = pure (riseB l) := by
  unfold r07_Rising
  have key : ∀ (k i : Nat) (x : TDot) (r : List TDot), i + k = l.length → l.drop i = r → i ≠ 0 → l[i - 1]? = some x → loop (r07_Rising_l0 l) (i : Int) = pure (if riseB (x :: r) = true then .brk () else .ret false) := by
    intro k
    induction k with
    | zero =>
      intro i x r hi hr h1 hx
      have : r = [] := by rw [← hr]; exact List.drop_eq_nil_of_le (by omega)
      subst this
      exact loop_done (by
        unfold r07_Rising_l0
        have : decide ((i : Int) < (l.length : Int)) = false := by simp; omega
        simp only [this, cond_false]; rfl)
    | succ k ih =>
      intro i x r hi hr h1 hx
      have hlt : i < l.length := by omega
      have hr2 : r = l[i] :: l.drop (i + 1) := by rw [← hr]; exact List.drop_eq_getElem_cons hlt
      have hy := List.getElem?_eq_getElem hlt
      have hi1 : idx l (IntKind.i64.wrap ((i : Int) - 1)) = pure x := by
        rw [wI64 (by omega) (by omega)]
        exact idx_eq (by omega) (by rw [show ((i : Int) - 1).toNat = i - 1 by omega]; exact hx)
      have hb : r07_Rising_l0 l (i : Int) = cond (!ltDot x l[i]) (pure (.done (.ret false))) (pure (.next ((i + 1 : Nat) : Int))) := by
        unfold r07_Rising_l0
        have : decide ((i : Int) < (l.length : Int)) = true := by simp; omega
        simp only [this, cond_true, hi1, idx_nat hy, pure_bind, V.r07_Cmp_eq, det_pure, cmp_ge, wSucc (show i < 9223372036854775807 by omega)]
      rw [hr2]
      show _ = (pure (if (ltDot x l[i] && riseB (l[i] :: l.drop (i + 1))) = true then Ex.brk () else Ex.ret false) : M (Ex Unit Bool))
      cases c : ltDot x l[i] with
      | true =>
        rw [c] at hb
        rw [loop_next hb, Bool.true_and]
        exact ih (i + 1) l[i] _ (by omega) rfl (by omega) hy
      | false =>
        rw [c] at hb
        rw [loop_done hb]; rfl
  cases l with
  | nil =>
    rw [loop_done (r := .brk ()) (by unfold r07_Rising_l0; rfl)]; rfl
  | cons x r =>
    have := key r.length 1 x r (by simp; omega) rfl (by decide) rfl
    rw [show ((1 : Nat) : Int) = 1 from rfl] at this
    rw [this, pure_bind]
    cases riseB (x :: r) <;> rfl

theorem num_enc {v : Int} (h0 : 0 ≤ v) (h : v ≤ 18446744073709551615) (r : List Int) : numS (N.encI v ++ r, 0) = (v, (r, 0)) := by
  have e := N.rdN_enc h0 h r
  unfold numS
  simp only [e, ne_eq, not_true_eq_false, if_false, List.drop_left]
theorem upto_enc {v m : Int} (h0 : 0 ≤ v) (h : v ≤ m) (hm : m ≤ 18446744073709551615) (r : List Int) : uptoS m (N.encI v ++ r, 0) = (v, (r, 0)) := by
  unfold uptoS
  rw [num_enc h0 (by omega) r]
  exact if_neg (by simp; omega)
theorem dot_enc {d : TDot} (h : OkD d) (hg : V.goodD d = true) (r : List Int) : dotS (encD d ++ r, 0) = (d, (r, 0)) := by
  have e1 := upto_enc h.d0 h.d1 (by decide) (N.encI d.n ++ r)
  have e2 := num_enc h.n0 h.n1 r
  have e : encD d ++ r = N.encI d.dev ++ (N.encI d.n ++ r) := by rw [encD, List.append_assoc]
  have hR : dotR (encD d ++ r, 0) = d := by unfold dotR; rw [e, e1]; simp only [e2]
  unfold dotS dotT
  rw [hR, hg, e, e1]
  simp only [e2, Bool.not_true, bad4_false]
  rfl
theorem lastGe_srt {out : List TDot} {x : TDot} (h : ∀ y ∈ out, ltDot y x = true) : lastGe out x = false := by
  unfold lastGe
  cases hl : out.getLast? with
  | none => rfl
  | some y =>
    have := h y (List.mem_of_getLast? hl)
    simp only [cmp_ge, this, Bool.not_true]
theorem dotsL_enc : ∀ (l out : List TDot) (r : List Int), Srt (out ++ l) → (∀ d ∈ l, OkD d ∧ V.goodD d = true) → dotsL l.length out (l.flatMap encD ++ r, 0) = (out ++ l, (r, 0))
  | [], out, r, _, _ => by simp [dotsL]
  | x :: t, out, r, hs, h => by
    have hx := h x (by simp)
    have e : dotS ((x :: t).flatMap encD ++ r, 0) = (x, (t.flatMap encD ++ r, 0)) := by
      rw [List.flatMap_cons, List.append_assoc]; exact dot_enc hx.1 hx.2 _
    have hT : dotsT out ((x :: t).flatMap encD ++ r, 0) = (t.flatMap encD ++ r, 0) := by
      unfold dotsT
      rw [e]
      simp only []
      rw [lastGe_srt fun y hy => (List.pairwise_append.1 hs).2.2 y hy x (by simp)]
      rfl
    rw [List.length_cons, dotsL_next (by rw [hT]), hT, e]
    simp only []
    rw [dotsL_enc t (out ++ [x]) r (by rw [List.append_assoc]; exact hs) (fun d hd => h d (by simp [hd])), List.append_assoc]
    rfl
theorem good_self {l : List TDot} (hs : Srt l) (h : ∀ d ∈ l, V.goodD d = true) : sortD (goods l) = l := by
  have e : goods l = l := List.filter_eq_self.2 h
  rw [e]; exact sort_self hs
theorem dots_enc {l : List TDot} (hs : Srt l) (h : ∀ d ∈ l, OkD d ∧ V.goodD d = true) {most : Int} (hm : (l.length : Int) ≤ most) (hl : l.length ≤ 1000000000000) (r : List Int) : dotsS most (encDs l ++ r, 0) = (l, (r, 0)) := by
  have e1 := good_self hs fun d hd => (h d hd).2
  have e2 : encDs l ++ r = N.encI (l.length : Int) ++ (l.flatMap encD ++ r) := by rw [encDs, e1, List.append_assoc]
  unfold dotsS
  rw [e2, num_enc (by omega) (by omega)]
  simp only []
  rw [if_neg (by omega), Int.toNat_natCast, dotsL_enc l [] r (by simpa using hs) h]
  rfl
theorem runsL_enc : ∀ (l out : List TRun) (r : List Int), (∀ x ∈ l, RunOk x) → runsL l.length out (l.flatMap encR ++ r, 0) = (out ++ l, (r, 0))
  | [], out, r, _ => by simp [runsL]
  | x :: t, out, r, h => by
    have hx := h x (by simp)
    have e1 : numS ((x :: t).flatMap encR ++ r, 0) = (x.lo, (N.encI x.hi ++ (t.flatMap encR ++ r), 0)) := by
      rw [List.flatMap_cons, encR, List.append_assoc, List.append_assoc]; exact num_enc hx.1.1 hx.1.2 _
    have e2 : numS (N.encI x.hi ++ (t.flatMap encR ++ r), 0) = (x.hi, (t.flatMap encR ++ r, 0)) := num_enc hx.2.1 hx.2.2 _
    rw [List.length_cons, runsL_next (by rw [e1]; simp only [e2]), e1]
    simp only [e2]
    rw [runsL_enc t _ r fun y hy => h y (by simp [hy]), List.append_assoc]
    rfl
theorem part_enc {p : TPart} (h : OkP p) (hl : p.runs.length ≤ 1000000000000) (r : List Int) : partS (encP p ++ r, 0) = (p, (r, 0)) := by
  have e : encP p ++ r = N.encI p.dev ++ (N.encI (p.runs.length : Int) ++ (p.runs.flatMap encR ++ r)) := by rw [encP, List.append_assoc, List.append_assoc]
  have e1 := upto_enc h.d0 h.d1 (by decide) (N.encI (p.runs.length : Int) ++ (p.runs.flatMap encR ++ r))
  have e2 := num_enc (v := (p.runs.length : Int)) (by omega) (by omega) (p.runs.flatMap encR ++ r)
  unfold partS
  rw [e, e1]
  simp only [e2, Int.toNat_natCast]
  rw [runsL_enc p.runs [] r h.r]
  rfl
theorem ctxL_enc : ∀ (c out : List TPart) (r : List Int), (∀ p ∈ c, OkP p ∧ p.runs.length ≤ 1000000000000) → ctxL c.length out (c.flatMap encP ++ r, 0) = (true, out ++ c, (r, 0))
  | [], out, r, _ => by simp [ctxL]
  | p :: t, out, r, h => by
    have hp := h p (by simp)
    have e : partS ((p :: t).flatMap encP ++ r, 0) = (p, (t.flatMap encP ++ r, 0)) := by
      rw [List.flatMap_cons, List.append_assoc]; exact part_enc hp.1 hp.2 _
    rw [List.length_cons, ctxL_next (by rw [e]), e]
    simp only []
    rw [ctxL_enc t _ r fun q hq => h q (by simp [hq]), List.append_assoc]
    rfl
theorem ctx_encN {c : List TPart} (hc : c = C.normC c) (h : ∀ p ∈ c, OkP p) (hl : c.length ≤ 1000000000000 ∧ C.totC c ≤ 1000000000000) (r : List Int) : ctxS (encN c ++ r, 0) = (c, (r, 0)) := by
  have e : encN c ++ r = N.encI (c.length : Int) ++ (c.flatMap encP ++ r) := by rw [encN, List.append_assoc]
  have e1 := num_enc (v := (c.length : Int)) (by omega) (by omega) (c.flatMap encP ++ r)
  have e2 := ctxL_enc c [] r fun p hp => ⟨h p hp, by have := C.run_le p hp; omega⟩
  unfold ctxS
  rw [e, e1]
  simp only [Int.toNat_natCast]
  simp only [e2, List.nil_append, if_true]
  have hdc : decide (c = C.normC c) = true := decide_eq_true hc
  rw [hdc]
  rfl
theorem norm_idem (c : List TPart) : C.normC c = C.normC (C.normC c) := (C.norm_canon (C.canon_norm c)).symm
theorem ctx_enc {c : List TPart} (h : ∀ p ∈ c, p.dev ≤ 65535) (hl : c.length ≤ 100000000 ∧ C.totC c ≤ 100000000) (r : List Int) : ctxS (encC c ++ r, 0) = (C.normC c, (r, 0)) :=
  ctx_encN (norm_idem c) (okP_norm h) ⟨by have := C.len_normC c; omega, by have := C.tot_normC c; omega⟩ r
theorem end_nil : endS ([], 0) = (0, ([], 0)) := rfl

def decC (b : List Int) : List TPart × Int := if (endS (ctxS (b, 0)).2).1 ≠ 0 then ([], (endS (ctxS (b, 0)).2).1) else ((ctxS (b, 0)).1, 0)
theorem Decode_eq {b : List Int} (hB : OkB b) : dcode_Decode b = pure (decC b) := by
  unfold dcode_Decode decC
  rw [N.New_eq b hB.len, det_pure, pure_bind, Ctx_eq hB.ok, det_pure, pure_bind, N.End_eq, det_pure, pure_bind]
  by_cases c : (endS (ctxS (b, 0)).2).1 = 0
  · rw [decide_eq_true c, Bool.not_true, cond_false, if_neg (by simp [c])]
  · rw [decide_eq_false c, Bool.not_false, cond_true, if_pos c]
theorem decC_enc {c : List TPart} (h : ∀ p ∈ c, p.dev ≤ 65535) (hl : c.length ≤ 100000000 ∧ C.totC c ≤ 100000000) : decC (encC c) = (C.normC c, 0) := by
  have e := ctx_enc h hl []
  rw [List.append_nil] at e
  unfold decC
  rw [e]
  rfl
theorem okB_encC {c : List TPart} (h : ∀ p ∈ c, p.dev ≤ 65535) (hl : c.length ≤ 10000000 ∧ C.totC c ≤ 10000000) : OkB (encC c) := by
  have hn := C.len_normC c
  have ht := C.tot_normC c
  refine ⟨by_encC c (okP_norm h) ⟨by omega, by omega⟩, ?_⟩
  have := encN_len (okP_norm h) (by omega) (by omega)
  rw [encC]; omega

theorem back_loop (l : List TDot) (hl : l.length ≤ 1000000000000) : loop (l15_DcodeBack_l0 l) 0 = pure (if l.all V.goodD = true then .brk () else .ret true) := by
  have := loopAll (body := l15_DcodeBack_l0 l) l (fun i => (i : Int)) (fun _ x => V.goodD x) (.brk ()) (.ret true) (fun i x hx hi => by
    have hd : decide ((i : Int) < (l.length : Int)) = true := by simpa using hi
    unfold l15_DcodeBack_l0
    simp only [hd, cond_true, idx_nat hx, pure_bind, V.r07_Good_eq, det_pure, works_eq, wSucc (show i < 9223372036854775807 by omega)]
    cases V.goodD x <;> rfl) (by
    unfold l15_DcodeBack_l0
    simp)
  rw [show (0 : Int) = ((0 : Nat) : Int) from rfl, this]
  congr 2
  have : (l.zipIdx.all fun y => V.goodD y.1) = l.all V.goodD := by
    rw [Bool.eq_iff_iff, List.all_eq_true, List.all_eq_true]
    constructor
    · intro h x hx
      obtain ⟨i, hi⟩ := List.getElem?_of_mem hx
      exact h (x, i) (by rw [List.mk_mem_zipIdx_iff_getElem?]; exact hi)
    · intro h y hy
      exact h y.1 (List.fst_mem_of_mem_zipIdx hy)
  rw [this]
theorem dcodeBack_eq (d : TDot) (l : List TDot) (c : List TPart) (hd : OkD d) (hl : ∀ d ∈ l, OkD d) (hc : ∀ p ∈ c, 0 ≤ p.dev ∧ p.dev ≤ 65535) : l15_DcodeBack d l c = pure true := by
  unfold l15_DcodeBack
  rw [works_eq]
  by_cases g1 : l.length ≤ 100
  · have e1 : decide ((100 : Int) < (l.length : Int)) = false := by simp; omega
    rw [e1, cond_false, C.rFew_eq, det_pure, pure_bind]
    cases g2 : (decide (c.length ≤ 30) && c.all fun p => decide (p.runs.length ≤ 30)) with
    | false => simp only [Bool.not_false, cond_true, pure_bind, det_pure]
    | true =>
      rw [Bool.not_true, cond_false, V.r07_Good_eq, det_pure, pure_bind]
      cases g3 : V.goodD d with
      | false => simp only [Bool.not_false, cond_true, pure_bind, det_pure]
      | true =>
        rw [Bool.not_true, cond_false, rRising_eq l (by omega), det_pure, pure_bind]
        cases g4 : riseB l with
        | false => simp only [Bool.not_false, cond_true, pure_bind, det_pure]
        | true =>
          rw [Bool.not_true, pure_bind, cond_false, back_loop l (by omega), pure_bind]
          cases g5 : l.all V.goodD with
          | false => rfl
          | true =>
            rw [if_pos rfl, exk_brk]
            have hcc := C.few_tot g2
            have ho := C.ok_few (fun p hp => (hc p hp).1) hcc
            have hc2 : ∀ p ∈ c, p.dev ≤ 65535 := fun p hp => (hc p hp).2
            have hs := rise_iff.1 g4
            have hg : ∀ x ∈ l, V.goodD x = true := List.all_eq_true.1 g5
            have hn := C.len_normC c
            have ht := C.tot_normC c
            have l1 := encN_len (okP_norm hc2) (by omega) (by omega)
            have l2 := encDs_len hl (by omega)
            have l3 := encD_len hd
            have hby : N.By (encC c ++ encDs l ++ encD d) := by
              refine ((by_encC c (okP_norm hc2) ⟨by omega, by omega⟩).app ?_).app ?_
              · rw [encDs, good_self hs hg]
                refine (N.by_enc (by omega)).app fun y hy => ?_
                obtain ⟨x, hx, h⟩ := List.mem_flatMap.1 hy
                exact ((N.by_enc (by have := (hl x hx).d1; omega)).app (N.by_enc (hl x hx).n1)) y h
              · exact (N.by_enc (by have := hd.d1; omega)).app (N.by_enc hd.n1)
            have hlen : (encC c ++ encDs l ++ encD d).length ≤ 1000000 := by
              rw [List.length_append, List.length_append, encC]; omega
            have hO : Ok (encC c ++ encDs l ++ encD d, 0) := ⟨hby, by simp only []; omega, fun h => absurd rfl h⟩
            have r1 : ctxS (encC c ++ encDs l ++ encD d, 0) = (C.normC c, (encDs l ++ encD d, 0)) := by
              rw [List.append_assoc]; exact ctx_enc hc2 (by omega) _
            have r2 : dotsS (l.length : Int) (encDs l ++ encD d, 0) = (l, (encD d, 0)) := dots_enc hs (fun x hx => ⟨hl x hx, hg x hx⟩) (Int.le_refl _) (by omega) _
            have r3 : dotS (encD d, 0) = (d, ([], 0)) := by
              have := dot_enc hd g3 []
              rwa [List.append_nil] at this
            have p1 : dcode_Ctx_o (encC c ++ encDs l ++ encD d) 0 = pure (C.normC c, (encDs l ++ encD d, 0)) := by rw [← r1]; exact Ctx_eq hO
            have o1 : Ok (encDs l ++ encD d, 0) := by have := (ctx_props hO).1; rw [r1] at this; exact this
            have p2 : dcode_Dots_o (l.length : Int) (encDs l ++ encD d) 0 = pure (l, (encD d, 0)) := by rw [← r2]; exact Dots_eq o1 (by omega)
            have o2 : Ok (encD d, 0) := by have := ok_dots o1 (l.length : Int); rw [r2] at this; exact this
            have p3 : dcode_Dot_o (encD d) 0 = pure (d, ([], 0)) := by rw [← r3]; exact Dot_eq o2
            have p4 : pack_Reader_End_o [] 0 = pure (endS ([], 0)) := N.End_eq ([], 0)
            have okn : C.Ok (C.normC c) := okC_of (okP_norm hc2) (by omega)
            have w1 := PutCtx_eq ho hc2 (by omega) [] (by simp)
            rw [List.nil_append] at w1
            simp only [w1, PutDots_eq hl (by omega) (encC c) (by rw [encC]; omega), PutDot_eq hd (encC c ++ encDs l) (by rw [List.length_append, encC]; omega), N.Bytes_eq (encC c ++ encDs l ++ encD d) (by omega), N.New_eq (encC c ++ encDs l ++ encD d) (by omega), p1, p2, p3, Encode_eq ho hc2 (by omega), Decode_eq (okB_encC hc2 (by omega)), decC_enc hc2 (by omega), C.rNorm_eq c ho, C.rEq_sm (C.normC c) (C.normC c) okn.sm, V.r07_Same_eq l l (by omega), p4, end_nil, det_pure, pure_bind, decide_true, Bool.and_true, cond_true]
  · have e1 : decide ((100 : Int) < (l.length : Int)) = true := by simp; omega
    simp only [e1, cond_true, pure_bind, det_pure]
end Go.Ep.M.D

namespace Go.Ep
open Go.RowKit Go.ChangeShapes Go.WideShapes

abbrev All : Nat → Prop := fun _ => True

mutual
/-- How many values and letters a reading holds. -/
def bulk {H : Type} : DataW H → Nat
  | .lit (.string bytes) => bytes.length + 1
  | .lit _ => 1
  | .nil => 1
  | .ptr d => bulk d + 1
  | .slice elems spare => bulkAll elems + bulkAll spare + 1
  | .agg parts => bulkAll parts + 1
  | .iface _ d => bulk d + 1
  | .map entries => bulkEntries entries + 1
  | .held _ => 1
def bulkAll {H : Type} : List (DataW H) → Nat
  | [] => 0
  | d :: r => bulk d + bulkAll r
def bulkEntries {H : Type} : List (Lit × DataW H) → Nat
  | [] => 0
  | x :: r => bulkEntry x + bulkEntries r
def bulkEntry {H : Type} : Lit × DataW H → Nat
  | (.string bytes, d) => bytes.length + bulk d + 1
  | (_, d) => bulk d + 1
end
theorem one_bulk {H : Type} (d : DataW H) : 1 ≤ bulk d := by
  cases d with
  | lit l => cases l <;> simp [bulk]
  | nil => simp [bulk]
  | ptr d => simp [bulk]
  | slice elems spare => simp [bulk]
  | agg parts => simp [bulk]
  | iface t d => simp [bulk]
  | map entries => simp [bulk]
  | held h => simp [bulk]
theorem bulkAll_app {H : Type} (l r : List (DataW H)) : bulkAll (l ++ r) = bulkAll l + bulkAll r := by
  induction l with
  | nil => simp [bulkAll]
  | cons x l ih => simp only [List.cons_append, bulkAll, ih]; omega
def szL {α : Type} (sz : α → Nat) : List α → Nat
  | [] => 0
  | a :: r => sz a + szL sz r
theorem szL_app {α : Type} (sz : α → Nat) (l r : List α) : szL sz (l ++ r) = szL sz l + szL sz r := by
  induction l with
  | nil => simp [szL]
  | cons x l ih => simp only [List.cons_append, szL, ih]; omega
/-- What is read at this type is data of this kind. -/
structure Opn (P : Program) (t : TypeId) (k : Nat) {α : Type} (enc : α → List DV) (ok : α → Prop) (sz : α → Nat) : Prop where
  cells : P.cellsOf t = k
  op : ∀ {H : Type} {en : TypeId × Value → H} {w : World} {fuel : Nat} {cs : List Value} {x : DataW H × List MemPlace}, DataW.trod en P w 0 (fun _ => true) true fuel t cs = some x →
    ∃ a, ok a ∧ cs.length = k ∧ (enc a).length = k ∧ (∀ (j : Nat) (y : DV) (u : Value), (enc a)[j]? = some y → cs[j]? = some u → DRd w All y u) ∧ sz a ≤ bulk x.1

section
variable {P : Program} {t : TypeId}

theorem Opn.map {k : Nat} {α β : Type} {enc : α → List DV} {enc' : β → List DV} {ok : α → Prop} {ok' : β → Prop} {sz : α → Nat} {sz' : β → Nat} (h : Opn P t k enc ok sz) (f : α → β) (he : ∀ a, ok a → enc' (f a) = enc a) (ho : ∀ a, ok a → ok' (f a)) (hz : ∀ a, sz' (f a) ≤ sz a) : Opn P t k enc' ok' sz' :=
  ⟨h.cells, fun hx => let ⟨a, h1, h2, h3, h4, h5⟩ := h.op hx; ⟨f a, ho a h1, h2, by rw [he a h1]; exact h3, by rw [he a h1]; exact h4, Nat.le_trans (hz a) h5⟩⟩

theorem one_get {w : World} {y : DV} {u : Value} (h : DRd w All y u) : ∀ (j : Nat) (y' : DV) (u' : Value), [y][j]? = some y' → [u][j]? = some u' → DRd w All y' u' := by
  intro j y' u' h1 h2
  cases j with
  | zero => simp at h1 h2; subst h1; subst h2; exact h
  | succ j => simp at h1

def okK (k : IntKind) (n : Int) : Prop := (Lit.int k n).wf = true
theorem Opn.int {k : IntKind} (hu : P.underlying t = some (.int k)) (hc : P.cellsOf t = 1) : Opn P t 1 (eK k) (okK k) (fun _ => 1) := by
  refine ⟨hc, fun {H en w fuel cs x} h => ?_⟩
  cases fuel with
  | zero => simp [DataW.trod] at h
  | succ fuel =>
    unfold DataW.trod at h
    rw [hu] at h
    split at h <;> simp_all
    case h_2 n _ =>
      obtain ⟨⟨h1, h2⟩, _⟩ := h
      subst h1
      refine ⟨n, h2, rfl, ?_, one_bulk _⟩
      intro j y u h1 h3
      exact one_get (.v _ rfl) j y u h1 h3
theorem okU64 {n : Int} (h : okK .u64 n) : 0 ≤ n ∧ n < 18446744073709551616 := by
  simp [okK, Lit.wf, IntKind.min, IntKind.max, IntKind.signed, IntKind.bits] at h; omega
theorem okU16 {n : Int} (h : okK .u16 n) : 0 ≤ n ∧ n < 65536 := by
  simp [okK, Lit.wf, IntKind.min, IntKind.max, IntKind.signed, IntKind.bits] at h; omega
theorem Opn.slice {e : TypeId} {k : Nat} {α : Type} {enc : α → List DV} {ok : α → Prop} {sz : α → Nat} (h : Opn P e k enc ok sz) (hu : P.underlying t = some (.slice e)) (hc : P.cellsOf t = 1) (hk : 0 < k) :
    Opn P t 1 (eL enc) (fun l => l.length ≤ 9223372036854775807 ∧ ∀ a ∈ l, ok a) (fun l => szL sz l + 1) := by
  refine ⟨hc, fun {H en w fuel cs x} hx => ?_⟩
  rcases Deep.open_slice hu hx with ⟨rfl, _⟩ | ⟨a, len, cap, m, n, D, Pl, rfl, _, hl, hm, hmm, hxD, hel⟩
  · exact ⟨[], ⟨Nat.zero_le _, by simp⟩, rfl, rfl, one_get (.nil none 0 (Nat.zero_le _) (fun _ => rfl)), one_bulk _⟩
  simp only [if_true] at hmm
  subst hmm
  rw [h.cells] at hel
  have hcut : ∀ n0, n0 ≤ len → ∃ l : List α, l.length = n0 ∧ (∀ a ∈ l, ok a) ∧ szL sz l ≤ bulkAll ((List.range n0).map D) ∧ ∀ (i : Nat) (b : α), l[i]? = some b → (enc b).length = k ∧ ∀ (j : Nat) (y : DV), (enc b)[j]? = some y → ∃ u, w.cell? (a.add (i * k + j)) = some u ∧ DRd w All y u := by
    intro n0
    induction n0 with
    | zero => intro _; exact ⟨[], rfl, by simp, by simp [szL], by simp⟩
    | succ n0 ih =>
      intro hn
      obtain ⟨l, h1, h2, hz, h3⟩ := ih (by omega)
      obtain ⟨cs', hc', ht'⟩ := hel n0 (by omega)
      obtain ⟨b, hb1, hb2, hb3, hb4, hb5⟩ := h.op ht'
      obtain ⟨_, _, hcell⟩ := World.cells?_some hc'
      refine ⟨l ++ [b], by simp [h1], ?_, by rw [szL_app, List.range_succ, List.map_append, bulkAll_app]; simp only [szL, List.map_cons, List.map_nil, bulkAll]; simp only at hb5; omega, ?_⟩
      · intro a ha
        rcases List.mem_append.1 ha with ha | ha
        · exact h2 a ha
        · simp at ha; subst ha; exact hb1
      · intro i b' hi
        rw [List.getElem?_append] at hi
        split at hi
        · exact h3 i b' hi
        · rename_i hge
          have hi0 : i = n0 := by
            have : i - l.length < 1 := by simpa using (List.getElem?_eq_some_iff.1 hi).1
            omega
          subst hi0
          simp [h1] at hi
          subst hi
          refine ⟨hb3, fun j y hy => ?_⟩
          have hj : j < k := by rw [← hb3]; exact (List.getElem?_eq_some_iff.1 hy).1
          have hcj := hcell j hj
          rw [Deep.add_add] at hcj
          have hu' : cs'[j]? = some (cs'[j]'(by omega)) := List.getElem?_eq_getElem (by omega)
          exact ⟨_, by rw [hcj, hu'], hb4 j y _ hy hu'⟩
  obtain ⟨l, h1, h2, hz, h3⟩ := hcut len (Nat.le_refl _)
  refine ⟨l, ⟨by unfold maxLen at hm; omega, h2⟩, rfl, rfl, one_get ?_, ?_⟩
  rotate_left
  · rw [hxD]; simp only [bulk]; omega
  by_cases h0 : len = 0
  · have : l = [] := List.eq_nil_of_length_eq_zero (by omega)
    subst this
    subst h0
    exact .nil _ _ hm (fun e => by cases e)
  · -- the first cell tells that the address is a plain one
    have hl0 : 0 < l.length := by omega
    obtain ⟨hk0, hc0⟩ := h3 0 _ (List.getElem?_eq_getElem hl0)
    obtain ⟨u0, hu0, _⟩ := hc0 0 _ (List.getElem?_eq_getElem (by omega : 0 < (enc l[0]).length))
    have hspot : a.spot = none := by simpa [Addr.add] using World.cell?_spot hu0
    obtain ⟨b, off, spot⟩ := a
    simp only at hspot
    subst hspot
    have hb : b < w.heap.size := by
      rw [Addr.add_lit] at hu0
      unfold World.cell? at hu0
      cases hh : w.heap[b]? with
      | none => simp [hh] at hu0
      | some o => exact (Array.getElem?_eq_some_iff.1 hh).1
    have hlen : (l.map enc).length = len := by simp [h1]
    rw [← hlen]
    refine .sl _ b off m k (fun i j => (w.cell? ⟨b, off + (i * k + j), none⟩).getD undef) (by omega) hm trivial hb ?_ ?_ ?_
    · intro i cs hi
      rw [List.getElem?_map] at hi
      cases hx : l[i]? with
      | none => simp [hx] at hi
      | some y => simp [hx] at hi; subst hi; exact (h3 i y hx).1
    · intro i j hi hj
      have hil : i < l.length := by simpa using hi
      obtain ⟨e1, e2⟩ := h3 i _ (List.getElem?_eq_getElem hil)
      obtain ⟨u, hu, _⟩ := e2 j _ (List.getElem?_eq_getElem (by omega : j < (enc l[i]).length))
      rw [Addr.add_lit] at hu
      simp [hu]
    · intro i cs j x hi hx
      rw [List.getElem?_map] at hi
      cases hy : l[i]? with
      | none => simp [hy] at hi
      | some y =>
        simp [hy] at hi
        subst hi
        obtain ⟨u, hu, hd⟩ := (h3 i y hy).2 j x hx
        rw [Addr.add_lit] at hu
        simpa [hu] using hd

/-- The fields from offset off on. -/
structure OpnF (P : Program) (fs : List Field) (off k : Nat) {α : Type} (enc : α → List DV) (ok : α → Prop) (sz : α → Nat) : Prop where
  op : ∀ {H : Type} {en : TypeId × Value → H} {w : World} {n : Nat} {cs : List Value} {xs : List (DataW H × List MemPlace)}, xs.length = fs.length →
    (∀ (i : Nat) (f : Field), fs[i]? = some f → DataW.trod en P w 0 (fun _ => true) true n f.type ((cs.drop f.offset).take (P.cellsOf f.type)) = xs[i]?) →
    ∃ a, ok a ∧ (enc a).length = k ∧ (∀ (j : Nat) (y : DV) (u : Value), (enc a)[j]? = some y → cs[off + j]? = some u → DRd w All y u) ∧ sz a ≤ bulkAll (xs.map (·.1))

theorem OpnF.nil (off : Nat) : OpnF P [] off 0 (fun _ : Unit => []) (fun _ => True) (fun _ => 0) := ⟨fun _ _ => ⟨(), trivial, rfl, by simp, Nat.zero_le _⟩⟩
theorem OpnF.cons {f : Field} {fs : List Field} {off k1 k2 : Nat} {α β : Type} {e1 : α → List DV} {o1 : α → Prop} {e2 : β → List DV} {o2 : β → Prop} {z1 : α → Nat} {z2 : β → Nat} (h1 : Opn P f.type k1 e1 o1 z1) (ho : f.offset = off) (h2 : OpnF P fs (off + k1) k2 e2 o2 z2) :
    OpnF P (f :: fs) off (k1 + k2) (fun p : α × β => e1 p.1 ++ e2 p.2) (fun p => o1 p.1 ∧ o2 p.2) (fun p => z1 p.1 + z2 p.2) := by
  refine ⟨fun {H en w n cs xs} hlen hx => ?_⟩
  cases xs with
  | nil => simp at hlen
  | cons x xs =>
    have hx0 := hx 0 f rfl
    simp only [List.getElem?_cons_zero] at hx0
    obtain ⟨a, ha1, ha2, ha3, ha4, ha5⟩ := h1.op hx0
    obtain ⟨b, hb1, hb2, hb3, hb4⟩ := h2.op (xs := xs) (by simpa using hlen) (fun i f' hf => by have := hx (i + 1) f' (by simpa using hf); simpa using this)
    refine ⟨(a, b), ⟨ha1, hb1⟩, by simp [ha3, hb2], ?_, by simp only [List.map_cons, bulkAll]; omega⟩
    intro j y u hy hu
    simp only [List.getElem?_append] at hy
    by_cases hj : j < k1
    · rw [if_pos (by omega)] at hy
      refine ha4 j y u hy ?_
      rw [List.getElem?_take, h1.cells, if_pos hj, List.getElem?_drop, ho]
      exact hu
    · rw [if_neg (by omega), ha3] at hy
      refine hb3 (j - k1) y u hy ?_
      rw [← hu]
      congr 1
      omega
theorem Opn.struct {fs : List Field} {k : Nat} {α : Type} {enc : α → List DV} {ok : α → Prop} {sz : α → Nat} (hu : P.underlying t = some (.struct fs.toArray)) (hc : P.cellsOf t = k) (h : OpnF P fs 0 k enc ok sz) : Opn P t k enc ok (fun a => sz a + 1) := by
  refine ⟨hc, fun {H en w fuel cs x} hx => ?_⟩
  obtain ⟨xs, n, _, hxe, hlen, hxl, hf⟩ := DataW.trod_struct hu hx
  obtain ⟨a, h1, h2, h3, h4⟩ := h.op (cs := cs) (xs := xs) (by simpa using hxl) (fun i f hi => hf i f (by simpa using hi))
  exact ⟨a, h1, by rw [hlen, hc], h2, fun j y u hy hu => h3 j y u hy (by simpa using hu), by rw [hxe]; simp only [bulk]; omega⟩

/-- A one-cell argument. -/
theorem Opn.arg {H : Type} {en : TypeId × Value → H} {w : World} {v : Value} {d : DataW H} {ps : List MemPlace} {α : Type} {enc : α → DV} {ok : α → Prop} {sz : α → Nat} (h : Opn P t 1 (fun a => [enc a]) ok sz)
    (hx : DataW.Trod en P w 0 (fun _ => true) true t v d ps) (h1 : v.oneCell' = true) : ∃ a, ok a ∧ Rd w g0 All (.d (enc a)) v ∧ sz a ≤ bulk d := by
  obtain ⟨fuel, hf⟩ := hx
  obtain ⟨a, ha, _, _, hr, hz⟩ := h.op hf
  have hcs : v.cells.toList = [v] := by cases v <;> first | rfl | (simp [Value.oneCell'] at h1; done)
  exact ⟨a, ha, .d (hr 0 _ v rfl (by rw [hcs]; rfl)), hz⟩
/-- An argument of more cells. -/
theorem Opn.argAgg {H : Type} {en : TypeId × Value → H} {w : World} {us : Array Value} {d : DataW H} {ps : List MemPlace} {k : Nat} {α : Type} {enc : α → List DV} {ok : α → Prop} {sz : α → Nat} (h : Opn P t k enc ok sz)
    (hx : DataW.Trod en P w 0 (fun _ => true) true t (.agg us) d ps) : ∃ a, ok a ∧ Rd w g0 All (.agg (List.map .d (enc a))) (.agg us) ∧ sz a ≤ bulk d := by
  obtain ⟨fuel, hf⟩ := hx
  obtain ⟨a, ha, hl, hel, hr, hz⟩ := h.op hf
  have hcs : (Value.agg us).cells.toList = us.toList := rfl
  rw [hcs] at hl hr
  refine ⟨a, ha, ?_, hz⟩
  have key : ∀ (i : Nat) (y : DV) (u : Value), (enc a)[i]? = some y → us.toList[i]? = some u → DRd w All y u := hr
  have := Rd.agg (w := w) (g := g0) (S := All) ((enc a).map .d) us.toList (by simp [hel, hl]) (fun i p u hp hu => by
    rw [List.getElem?_map] at hp
    cases hy : (enc a)[i]? with
    | none => simp [hy] at hp
    | some y => simp [hy] at hp; subst hp; exact .d (key i y u hy hu)) (fun u hu => by
    obtain ⟨i, hi, rfl⟩ := List.getElem_of_mem hu
    have hi2 : i < (enc a).length := by omega
    exact (key i _ _ (List.getElem?_eq_getElem hi2) (List.getElem?_eq_getElem hi)).one)
  simpa using this

theorem trodAll_below {H : Type} {en : TypeId × Value → H} (hl : laidOutB P = true) {W W' : World} (hb : Below W.heap.size W W') : ∀ {ts : List TypeId} {vs : List Value} {ds : List (DataW H)} {ps : List MemPlace},
    (∀ t ∈ ts, P.readableRec t = true ∧ t < P.types.size) → DataW.TrodAll en P W 0 (fun _ => true) true ts vs ds ps → (∀ x ∈ ps, x.block < W.heap.size) → DataW.TrodAll en P W' 0 (fun b => decide (b < W.heap.size)) true ts vs ds ps
  | [], [], [], ps, _, h, _ => h
  | t :: ts, v :: vs, d :: ds, ps, hr, h, hlt => by
    obtain ⟨p, q, h1, h2, rfl⟩ := h
    have hrt := hr t (by simp)
    exact ⟨p, q, Below.trod hl hrt.1 hrt.2 h1 hb (fun x hx => hlt x (List.mem_append.2 (.inl hx))), trodAll_below hl hb (fun t ht => hr t (by simp [ht])) h2 (fun x hx => hlt x (List.mem_append.2 (.inr hx))), rfl⟩
  | [], [], _ :: _, _, _, h, _ => h.elim
  | [], _ :: _, _, _, _, h, _ => h.elim
  | _ :: _, [], _, _, _, h, _ => h.elim
  | _ :: _, _ :: _, [], _, _, h, _ => h.elim
theorem trodAll_len {H : Type} {en : TypeId × Value → H} {w : World} {base : Nat} {sp : Nat → Bool} {hd : Bool} : ∀ {ts : List TypeId} {vs : List Value} {ds : List (DataW H)} {ps : List MemPlace}, DataW.TrodAll en P w base sp hd ts vs ds ps → ds.length = ts.length
  | [], [], [], _, _ => rfl
  | _ :: _, _ :: _, _ :: _, _, h => by
    obtain ⟨_, _, _, h2, _⟩ := h
    simp [trodAll_len h2]
  | [], [], _ :: _, _, h => h.elim
  | [], _ :: _, _, _, h => h.elim
  | _ :: _, [], _, _, h => h.elim
  | _ :: _, _ :: _, [], _, h => h.elim

/-- 'For every input true; the input reads as it did.' -/
theorem post_true {H : Type} {en : TypeId × Value → H} {fn : Func} {s : ChangeSpec} {tb : TypeId} {W W' : World} {args : Array Value} {ds gs : List (DataW H)} {before : List MemPlace} (hl : laidOutB P = true)
    (hW : DataW.Whole en P fn.params.toList s.vars false W args.toList ds gs before) (hv : s.vars = []) (hs : ∀ ds : List (DataW H), ds.length = fn.params.size → (s.fn H ds).results = [.lit (.bool true)] ∧ (s.fn H ds).args = ds ∧ (s.fn H ds).vars = [])
    (hres : fn.resultTypes = #[tb]) (htb : P.underlying tb = some .bool) (hr : ∀ t ∈ fn.params.toList, P.readableRec t = true ∧ t < P.types.size) (hb : Below W.heap.size W W') :
    s.post en P fn false true false false W args (.bool true) W' := by
  have hW' := hW
  obtain ⟨p, q, hA, hV, hpq, hfz, hnd⟩ := hW
  rw [hv] at hV
  obtain ⟨rfl, rfl⟩ := trodVars_none hV
  simp only [List.append_nil] at hpq
  subst hpq
  have hlt : ∀ x ∈ before, x.block < W.heap.size := fun x hx => by simpa using hW'.lt x hx
  have hlen : ds.length = fn.params.size := by simpa using trodAll_len hA
  obtain ⟨e1, e2, e3⟩ := hs (ds ++ []) (by simpa using hlen)
  refine ⟨ds, [], before, [], before, [], hW', ?_, ?_, ?_, hb.frame _, fun h => by cases h⟩
  · rw [e1, hres]
    exact trodAll_mk1 (shut_bool htb true)
  · rw [e2, List.append_nil]
    exact trodAll_below hl hb hr hA hlt
  · rw [e3, hv]; rfl
end
end Go.Ep

namespace Go.Ep
set_option linter.unusedVariables false

def TDot.ok (x : TDot) : Prop := okK .u16 x.dev ∧ okK .u64 x.n
def TDot.sz (x : TDot) : Nat := (1 + (1 + 0)) + 1
def TRun.ok (x : TRun) : Prop := okK .u64 x.lo ∧ okK .u64 x.hi
def TRun.sz (x : TRun) : Nat := (1 + (1 + 0)) + 1
def TPart.ok (x : TPart) : Prop := okK .u16 x.dev ∧ (List.length x.runs ≤ 9223372036854775807 ∧ ∀ a ∈ x.runs, TRun.ok a)
def TPart.sz (x : TPart) : Nat := (1 + ((szL TRun.sz x.runs + 1) + 0)) + 1
end Go.Ep
namespace Go.Proofs
open Go.Ep
set_option maxRecDepth 100000
theorem opnTDot : Opn Tryz.prog 32 2 TDot.e TDot.ok TDot.sz := (Opn.struct Tryz.underlying32 (by kernel_rfl) (OpnF.cons (Opn.int Tryz.underlying29 (by kernel_rfl)) rfl (OpnF.cons (Opn.int Tryz.underlying30 (by kernel_rfl)) rfl (OpnF.nil _)))).map (fun p => ⟨p.1, p.2.1⟩) (fun _ _ => rfl) (fun p h => ⟨h.1, h.2.1⟩) (fun _ => Nat.le_refl _)
theorem opnTRun : Opn Tryz.prog 89 2 TRun.e TRun.ok TRun.sz := (Opn.struct Tryz.underlying89 (by kernel_rfl) (OpnF.cons (Opn.int Tryz.underlying30 (by kernel_rfl)) rfl (OpnF.cons (Opn.int Tryz.underlying30 (by kernel_rfl)) rfl (OpnF.nil _)))).map (fun p => ⟨p.1, p.2.1⟩) (fun _ _ => rfl) (fun p h => ⟨h.1, h.2.1⟩) (fun _ => Nat.le_refl _)
theorem opnTPart : Opn Tryz.prog 80 2 TPart.e TPart.ok TPart.sz := (Opn.struct Tryz.underlying80 (by kernel_rfl) (OpnF.cons (Opn.int Tryz.underlying29 (by kernel_rfl)) rfl (OpnF.cons (opnTRun.slice Tryz.underlying37 (by kernel_rfl) (by decide)) rfl (OpnF.nil _)))).map (fun p => ⟨p.1, p.2.1⟩) (fun _ _ => rfl) (fun p h => ⟨h.1, h.2.1⟩) (fun _ => Nat.le_refl _)
end Go.Proofs

