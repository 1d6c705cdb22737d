/- Texts that the walks and laws lean on, side by side. -/
import Derived.ProofKit
import Derived.Deep.Slices
import Derived.Test.YtacnidaafcfgiaaProg
import Derived.KernelRfl
import Derived.Test.YtacnidaafcfgiaaMop2
import Derived.Test.YtacnidaafcfgiaaMop8
set_option linter.unusedVariables false
set_option linter.unusedSimpArgs false
namespace Go.Ep.M.E
open Go

theorem bytes_len (s : ByteArray) : (bytesL s).length = s.size := by simp [bytesL]
def cidD (v : Int) : TDot := ⟨v / 281474976710656, v % 281474976710656⟩
def goodC (v : Int) : Bool := V.goodD (cidD v)
def goodF (f : Int) : Bool := decide (1 ≤ f) && decide (f ≤ 5)
def okB (x : Int) : Bool := decide (32 ≤ x) && decide (x ≤ 126)
def goodT (s : ByteArray) : Bool := decide (s.size ≤ 60) && (bytesL s).all okB
theorem all_zip {α : Type} (l : List α) (p : α → Bool) : (l.zipIdx.all fun y => p y.1) = l.all p := by
  rw [Bool.eq_iff_iff, List.all_eq_true, List.all_eq_true]
  constructor
  · intro h x hx
    obtain ⟨i, hi⟩ := List.getElem?_of_mem hx
    exact h (x, i) (by rw [List.mk_mem_zipIdx_iff_getElem?]; exact hi)
  · intro h y hy
    exact h y.1 (List.fst_mem_of_mem_zipIdx hy)
structure OkE (e : TEvent) : Prop where
  dot : D.OkD e.dot
  kind : 0 ≤ e.kind ∧ e.kind ≤ 255
  cid : 0 ≤ e.cid ∧ e.cid ≤ 18446744073709551615
  field : 0 ≤ e.field ∧ e.field ≤ 255
  text : e.text.size ≤ 1000000000
  kills : ∀ d ∈ e.kills, D.OkD d
  klen : e.kills.length ≤ 1000000000
def noText (s : ByteArray) : Bool := decide (s = ⟨#[]⟩)
def goodK (e : TEvent) : Bool := (decide (e.kind = 1) && (goodF e.field && goodT e.text)) || (decide (e.kind = 2) && (decide (e.field = 0) && noText e.text))
def goodL (e : TEvent) : Bool := decide (e.kills.length ≤ 256) && (D.riseB e.kills && e.kills.all fun d => V.goodD d && !decide (d = e.dot))
def goodE (e : TEvent) : Bool := (goodC e.cid && V.goodD e.dot) && (goodK e && goodL e)
theorem rHas_eq (l : List TDot) (d : TDot) (hl : l.length ≤ 1000000000000) : r07_Has l d = pure (l.any fun x => decide (x = d)) := by
  unfold r07_Has
  have := loopAll (body := r07_Has_l0 l d) l (fun i => (i : Int)) (fun _ x => !decide (x = d)) (Ex.brk ()) (Ex.ret true) (fun i x hx hi => by
    have hd : decide ((i : Int) < (l.length : Int)) = true := by simpa using hi
    unfold r07_Has_l0
    simp only [hd, cond_true, idx_nat hx, pure_bind, D.dotEq, wSucc (show i < 9223372036854775807 by omega)]
    cases decide (x = d) <;> rfl) (by
    unfold r07_Has_l0
    simp)
  rw [show (0 : Int) = ((0 : Nat) : Int) from rfl, this, pure_bind, all_zip l fun x => !decide (x = d)]
  have e : (l.any fun x => decide (x = d)) = !(l.all fun x => !decide (x = d)) := by simp [List.all_eq_not_any_not]
  rw [e]
  cases l.all fun x => !decide (x = d) <;> rfl
theorem rgood_loop (e : TEvent) (hl : e.kills.length ≤ 1000000000000) : loop (r13_Good_l0 e) 0 = pure (if e.kills.all V.goodD = true then Ex.brk () else Ex.ret false) := by
  have := loopAll (body := r13_Good_l0 e) e.kills (fun i => (i : Int)) (fun _ d => V.goodD d) (Ex.brk ()) (Ex.ret false) (fun i x hx hi => by
    have hd : decide ((i : Int) < (e.kills.length : Int)) = true := by simpa using hi
    unfold r13_Good_l0
    simp only [hd, cond_true, idx_nat hx, pure_bind, V.r07_Good_eq, det_pure, wSucc (show i < 9223372036854775807 by omega)]
    cases V.goodD x <;> rfl) (by
    unfold r13_Good_l0
    simp)
  rw [show (0 : Int) = ((0 : Nat) : Int) from rfl, this, all_zip e.kills V.goodD]
def fewE (l : List TEvent) (most : Nat) : Bool := decide (l.length ≤ most) && l.all fun e => decide (e.kills.length ≤ 300) && decide (e.text.size ≤ 200)
theorem rFew_eq (l : List TEvent) (most : Nat) (hm : most ≤ 1000000) : r13_Few l (most : Int) = pure (fewE l most) := by
  unfold r13_Few fewE
  by_cases h : l.length ≤ most
  · have hd : decide ((most : Int) < (l.length : Int)) = false := by simp; omega
    have := loopAll (body := r13_Few_l0 l) l (fun i => (i : Int)) (fun _ e => decide (e.kills.length ≤ 300) && decide (e.text.size ≤ 200)) (Ex.brk ()) (Ex.ret false) (fun i x hx hi => by
      have hd : decide ((i : Int) < (l.length : Int)) = true := by simpa using hi
      unfold r13_Few_l0
      simp only [hd, cond_true, idx_nat hx, pure_bind, wSucc (show i < 9223372036854775807 by omega)]
      by_cases c : x.kills.length ≤ 300
      · have h1 : decide ((300 : Int) < (x.kills.length : Int)) = false := by simp; omega
        rw [h1, cond_false, decide_eq_true c, Bool.true_and, pure_bind]
        by_cases c2 : x.text.size ≤ 200
        · have h2 : decide ((200 : Int) < (x.text.size : Int)) = false := by simp; omega
          rw [h2, decide_eq_true c2]; rfl
        · have h2 : decide ((200 : Int) < (x.text.size : Int)) = true := by simp; omega
          rw [h2, decide_eq_false c2]; rfl
      · have h1 : decide ((300 : Int) < (x.kills.length : Int)) = true := by simp; omega
        rw [h1, cond_true, decide_eq_false c, Bool.false_and]; rfl) (by
      unfold r13_Few_l0
      simp)
    rw [hd, cond_false, decide_eq_true h, Bool.true_and, show (0 : Int) = ((0 : Nat) : Int) from rfl, this, pure_bind, all_zip l fun e => decide (e.kills.length ≤ 300) && decide (e.text.size ≤ 200)]
    cases l.all fun e => decide (e.kills.length ≤ 300) && decide (e.text.size ≤ 200) <;> rfl
  · have hd : decide ((most : Int) < (l.length : Int)) = true := by simp; omega
    rw [hd, cond_true, decide_eq_false h, Bool.false_and]
theorem few_mem {l : List TEvent} {most : Nat} (h : fewE l most = true) : l.length ≤ most ∧ ∀ e ∈ l, e.kills.length ≤ 300 ∧ e.text.size ≤ 200 := by
  unfold fewE at h
  rw [Bool.and_eq_true, List.all_eq_true] at h
  exact ⟨by simpa using h.1, fun e he => by simpa using h.2 e he⟩
theorem rSame_eq (a b : TEvent) (h : a.kills.length ≤ 1000000000000) : r13_Same a b = pure (decide (a = b)) := by
  unfold r13_Same
  rw [D.dotEq, V.r07_Same_eq a.kills b.kills h, det_pure, pure_bind]
  have e : decide (a = b) = (decide (a.dot = b.dot) && (decide (a.kind = b.kind) && (decide (a.cid = b.cid) && (decide (a.field = b.field) && (decide (a.text = b.text) && decide (a.kills = b.kills)))))) := by
    cases a; cases b; simp only [TEvent.mk.injEq, Bool.decide_and]
  rw [e]
  cases decide (a.dot = b.dot) <;> cases decide (a.kind = b.kind) <;> cases decide (a.cid = b.cid) <;> cases decide (a.field = b.field) <;> cases decide (a.text = b.text) <;> rfl
theorem rAll_eq (a b : List TEvent) (ha : a.length ≤ 1000000000000) (hk : ∀ e ∈ a, e.kills.length ≤ 1000000000000) : r13_All a b = pure (decide (a = b)) := by
  unfold r13_All
  by_cases hlen : a.length = b.length
  · have h1 : decide ((a.length : Int) = (b.length : Int)) = true := by simp [hlen]
    rw [h1, Bool.not_true, cond_false]
    have := loopAll (body := r13_All_l0 a b) a (fun i => (i : Int)) (fun i x => decide (b[i]? = some x)) (Ex.brk ()) (Ex.ret false) (fun i x hx hi => by
      have hd : decide ((i : Int) < (a.length : Int)) = true := by simpa using hi
      obtain ⟨y, hy⟩ : ∃ y, b[i]? = some y := ⟨_, List.getElem?_eq_getElem (by omega)⟩
      unfold r13_All_l0
      simp only [hd, cond_true, idx_nat hx, idx_nat hy, pure_bind, rSame_eq x y (hk x (List.mem_of_getElem? hx)), det_pure, wSucc (show i < 9223372036854775807 by omega), hy]
      by_cases c : x = y
      · subst c; simp
      · have : ¬ some y = some x := fun e => c (Option.some.inj e).symm
        simp [c, this]) (by
      unfold r13_All_l0
      simp)
    rw [show (0 : Int) = ((0 : Nat) : Int) from rfl, this, pure_bind]
    have e : (a.zipIdx.all fun y => decide (b[y.2]? = some y.1)) = decide (a = b) := by
      rw [Bool.eq_iff_iff, List.all_eq_true, decide_eq_true_eq]
      constructor
      · intro h
        apply List.ext_getElem?
        intro i
        by_cases hi : i < a.length
        · have := h (a[i], i) (by rw [List.mk_mem_zipIdx_iff_getElem?]; exact List.getElem?_eq_getElem hi)
          simp only [decide_eq_true_eq] at this
          rw [this, List.getElem?_eq_getElem hi]
        · rw [List.getElem?_eq_none (by omega), List.getElem?_eq_none (by omega)]
      · intro h y hy
        subst h
        rw [List.mem_zipIdx_iff_getElem?] at hy
        simpa using hy
    rw [e]
    cases decide (a = b) <;> rfl
  · have h1 : decide ((a.length : Int) = (b.length : Int)) = false := by simp; omega
    have h2 : decide (a = b) = false := decide_eq_false fun e => hlen (by rw [e])
    rw [h1, Bool.not_false, cond_true, h2]

def encT (s : ByteArray) : List Int := N.encI s.size ++ bytesL s
def encE (e : TEvent) : List Int := D.encD e.dot ++ ([e.kind] ++ (N.encI e.cid ++ ([e.field] ++ (encT e.text ++ D.encDs e.kills))))
theorem encT_len {s : ByteArray} (h : s.size ≤ 1000000000) : (encT s).length ≤ 9 + s.size := by
  have := N.encI_len (v := (s.size : Int)) (by omega)
  rw [encT, List.length_append, bytes_len]; omega
theorem rPutText_eq {s : ByteArray} (h : s.size ≤ 1000000000) (row : List Int) (hr : row.length ≤ 1000000000000) : r04_Text row s = pure (row ++ encT s) := by
  have h9 := N.encI_len (v := (s.size : Int)) (by omega)
  unfold r04_Text
  rw [wU64 (by omega) (by omega), N.rAppend_eq row (by omega) (by omega) (by omega), det_pure, pure_bind]
  have := D.loopApp (body := r04_Text_l0 s) (bytesL s) (fun x => [x]) (row ++ N.encI (s.size : Int)) 2000000000000 (fun i out => ((i : Int), out)) (fun t => pure t) (by
    have := D.flat_len (bytesL s) (fun x => [x]) 1 (by simp)
    rw [bytes_len] at this
    rw [List.length_append]; omega) (fun i x out hx hi ho => by
    have hi2 : i < s.size := by rw [← bytes_len]; exact hi
    have hd : decide ((i : Int) < (s.size : Int)) = true := by simpa using hi2
    unfold r04_Text_l0
    simp only [hd, cond_true, idx_nat hx, pure_bind]
    rw [need_true (by simp at ho ⊢; omega), wSucc (show i < 9223372036854775807 by omega)]) (fun out => by
    unfold r04_Text_l0
    simp [bytes_len, pure_bind])
  rw [show (0 : Int) = ((0 : Nat) : Int) from rfl, this, pure_bind, encT, List.append_assoc]
  have e : ∀ l : List Int, (l.flatMap fun x => [x]) = l := by
    intro l
    induction l with
    | nil => rfl
    | cons x r ih => rw [List.flatMap_cons, ih]; rfl
  rw [e]
theorem rPut_eq {e : TEvent} (h : OkE e) (row : List Int) (hr : row.length ≤ 10000000000) : r16_Put row e = pure (row ++ encE e) := by
  have h1 := D.encD_len h.dot
  have h2 := N.encI_len h.cid.2
  have h3 := encT_len h.text
  have ht := h.text; have hk := h.klen
  unfold r16_Put
  rw [D.rPutDot_eq h.dot row (by omega), det_pure, pure_bind, need_true (by simp only [List.length_append, List.length_singleton]; omega), N.rAppend_eq _ h.cid.1 h.cid.2 (by simp only [List.length_append, List.length_singleton]; omega), det_pure, pure_bind,
    need_true (by simp only [List.length_append, List.length_singleton]; omega), rPutText_eq h.text _ (by simp only [List.length_append, List.length_singleton]; omega), det_pure, pure_bind,
    D.rPutDots_eq h.kills (by omega) _ (by simp only [List.length_append, List.length_singleton]; omega), det_pure, pure_bind]
  simp only [encE, List.append_assoc]
open N (RS Ok numS uptoS byteS textS failS endS OkB Sim)
open D (bad4 fin)

def s1 (s : RS) : RS := (D.dotS s).2
def s2 (s : RS) : RS := (byteS (s1 s)).2
def s3 (s : RS) : RS := (numS (s2 s)).2
def s4 (s : RS) : RS := (byteS (s3 s)).2
def s5 (s : RS) : RS := (textS 60 (s4 s)).2
def s6 (s : RS) : RS := (D.dotsS 256 (s5 s)).2
def getE (s : RS) : TEvent := ⟨(D.dotS s).1, (byteS (s1 s)).1, (numS (s2 s)).1, (byteS (s3 s)).1, (textS 60 (s4 s)).1, (D.dotsS 256 (s5 s)).1⟩
def noE : TEvent := ⟨⟨0, 0⟩, 0, 0, 0, ⟨#[]⟩, []⟩
def getT (s : RS) : RS := bad4 (!goodE (getE s)) (s6 s)
def getS (s : RS) : TEvent × RS := fin noE (getE s) (getT s)
variable {B : List Int} {a : Int} {s : RS}
open N (RS Ok numS uptoS byteS textS failS endS OkB Sim)
open D (bad4 fin)

variable {B : List Int} {a : Int} {s : RS}
theorem Copy_eq (e : TEvent) (h : e.kills.length ≤ 1000000000000) : event_Copy e = pure e := by
  unfold event_Copy
  rw [D.Clone_eq _ h, det_pure, pure_bind]
def nB (l : List TEvent) : Nat := (l.length + 3) / 4
def kB (l : List TEvent) (pick : Int) : Nat := (pick % (nB l : Int)).toNat
def batch (l : List TEvent) (pick : Int) : List TEvent := if nB l = 0 then [] else (l.drop (4 * kB l pick)).take 4
theorem kB_lt {l : List TEvent} (h : nB l ≠ 0) (pick : Int) : kB l pick < nB l := by
  unfold kB
  have h1 := Int.emod_lt_of_pos pick (show (0 : Int) < (nB l : Int) by omega)
  have h2 := Int.emod_nonneg pick (show (nB l : Int) ≠ 0 by omega)
  omega
theorem kB_cast {l : List TEvent} (h : nB l ≠ 0) (pick : Int) : ((kB l pick : Nat) : Int) = pick % (nB l : Int) := by
  unfold kB
  have h2 := Int.emod_nonneg pick (show (nB l : Int) ≠ 0 by omega)
  omega
theorem Batches_eq (l : List TEvent) (h : l.length ≤ 1000000000) : outbox_Batches l = pure (nB l : Int) := by
  unfold outbox_Batches nB
  rw [wI64 (n := (l.length : Int) + 4) (by omega) (by omega), wI64 (n := (l.length : Int) + 4 - 1) (by omega) (by omega), Int.tdiv_eq_ediv_of_nonneg (by omega), wI64 (by omega) (by omega), show (l.length : Int) + 4 - 1 = ((l.length + 3 : Nat) : Int) by omega]
  rfl
theorem rBatches_eq (l : List TEvent) (h : l.length ≤ 1000000000) : r29_Batches l = pure (nB l : Int) := by
  unfold r29_Batches nB
  rw [wI64 (n := (l.length : Int) + 3) (by omega) (by omega), Int.tdiv_eq_ediv_of_nonneg (by omega), wI64 (by omega) (by omega)]
  rfl
theorem tmod_abs (a n : Int) (h : 0 < n) : -n < Int.tmod a n ∧ Int.tmod a n < n := by
  rw [Int.tmod_eq_emod]
  have h1 := Int.emod_lt_of_pos a h
  have h2 := Int.emod_nonneg a (show n ≠ 0 by omega)
  have h3 : (n.natAbs : Int) = n := by omega
  split <;> omega
theorem tmod_neg (a n : Int) (h : 0 < n) : (if Int.tmod a n < 0 then Int.tmod a n + n else Int.tmod a n) = a % n := by
  have h1 := Int.emod_lt_of_pos a h
  have h2 := Int.emod_nonneg a (show n ≠ 0 by omega)
  have h3 : (n.natAbs : Int) = n := by omega
  have h4 := Int.tmod_eq_emod (a := a) (b := n)
  split at h4
  · rw [h4]; split <;> omega
  · rename_i c
    have h5 : a % n ≠ 0 := fun e => c (Or.inr (Int.dvd_of_emod_eq_zero e))
    rw [h4]; split <;> omega
theorem tmod_add (a n : Int) (h : 0 < n) : Int.tmod (Int.tmod a n + n) n = a % n := by
  have h1 := tmod_abs a n h
  rw [Int.tmod_eq_emod_of_nonneg (by omega), Int.add_emod_right]
  have h4 := tmod_neg a n h
  have h2 := Int.emod_nonneg a (show n ≠ 0 by omega)
  have h3 := Int.emod_lt_of_pos a h
  split at h4
  · rw [← Int.add_emod_right, h4]; exact Int.emod_eq_of_lt h2 h3
  · rw [h4]; exact Int.emod_eq_of_lt h2 h3
theorem foldl_snoc (l t : List TEvent) : l.foldl (fun t x => t ++ [x]) t = t ++ l := by
  induction l generalizing t with
  | nil => simp
  | cons x r ih => rw [List.foldl_cons, ih, List.append_assoc]; rfl
theorem Batch_eq (l : List TEvent) (pick : Int) (h : l.length ≤ 1000000000) (hk : ∀ e ∈ l, e.kills.length ≤ 1000000000000) : outbox_Batch l pick = pure (batch l pick) := by
  unfold outbox_Batch
  rw [Batches_eq l h, det_pure, pure_bind]
  by_cases c : nB l = 0
  · have : decide ((nB l : Int) = 0) = true := by simp [c]
    rw [this, cond_true, batch, if_pos c]
  · have hd : decide ((nB l : Int) = 0) = false := by simp [c]
    have hp : (0 : Int) < (nB l : Int) := by omega
    have hn : nB l ≤ 1000000000 := by unfold nB; omega
    have hlt := kB_lt c pick
    have h4 : 4 * kB l pick < l.length := by unfold nB at hlt; omega
    rw [hd, cond_false, need_true (by omega)]
    have e1 : (cond (decide (Int.tmod pick (nB l : Int) < 0)) (pure (IntKind.i64.wrap (Int.tmod pick (nB l : Int) + (nB l : Int)))) (pure (Int.tmod pick (nB l : Int))) : M Int) = pure ((kB l pick : Nat) : Int) := by
      have h1 := tmod_abs pick _ hp
      have h2 := tmod_neg pick _ hp
      rw [kB_cast c, ← h2, wI64 (by omega) (by omega)]
      by_cases c2 : Int.tmod pick (nB l : Int) < 0
      · rw [decide_eq_true c2, cond_true, if_pos c2]
      · rw [decide_eq_false c2, cond_false, if_neg c2]
    rw [e1, pure_bind]
    have w1 : IntKind.i64.wrap (((kB l pick : Nat) : Int) * 4) = ((4 * kB l pick : Nat) : Int) := by rw [wI64 (by omega) (by omega)]; omega
    have w2 : IntKind.i64.wrap (IntKind.i64.wrap (((kB l pick : Nat) : Int) + 1) * 4) = ((4 * kB l pick + 4 : Nat) : Int) := by rw [wI64 (n := _ + 1) (by omega) (by omega), wI64 (by omega) (by omega)]; omega
    have w3 : min (((4 * kB l pick + 4 : Nat) : Int)) (l.length : Int) = ((min (4 * kB l pick + 4) l.length : Nat) : Int) := by omega
    have es : List.drop (4 * kB l pick) (List.take (min (4 * kB l pick + 4) l.length) l) = (l.drop (4 * kB l pick)).take 4 := by
      rw [List.drop_take]
      refine List.take_eq_take_iff.2 ?_
      rw [List.length_drop]; omega
    rw [need_true (by rw [w1, w2, w3]; omega)]
    have hm : ∀ e ∈ (l.drop (4 * kB l pick)).take 4, e ∈ l := fun e he => List.mem_of_mem_drop (List.mem_of_mem_take he)
    have hl4 : ((l.drop (4 * kB l pick)).take 4).length ≤ 4 := by rw [List.length_take]; omega
    have hb : batch l pick = (l.drop (4 * kB l pick)).take 4 := if_neg c
    have := loopL (body := outbox_Batch_l0 (kB l pick : Int) l) ((l.drop (4 * kB l pick)).take 4) (fun i t => ((i : Int), t)) (fun t x => t ++ [x]) (fun t => pure t) (fun i t => t.length = i) (fun i x t hx hi hI => by
      refine ⟨?_, by simp [hI]⟩
      unfold outbox_Batch_l0
      simp only [w1, w2, w3, Int.toNat_natCast, es]
      have hd : decide ((i : Int) < (((l.drop (4 * kB l pick)).take 4).length : Int)) = true := by simpa using hi
      rw [hd, cond_true, idx_nat hx, pure_bind, Copy_eq x (hk x (hm x (List.mem_of_getElem? hx))), det_pure, pure_bind, need_true (by simp; omega), wSucc (by omega)]) (fun t _ => by
      unfold outbox_Batch_l0
      simp only [w1, w2, w3, Int.toNat_natCast, es]
      simp [pure_bind]) [] rfl
    rw [show (0 : Int) = ((0 : Nat) : Int) from rfl, this, pure_bind, foldl_snoc, List.nil_append, hb]
theorem rBatch_eq (l : List TEvent) (pick : Int) (h : l.length ≤ 1000000000) : r29_Batch l pick = pure (batch l pick) := by
  unfold r29_Batch
  rw [rBatches_eq l h, det_pure, pure_bind]
  by_cases c : nB l = 0
  · have : decide ((nB l : Int) = 0) = true := by simp [c]
    rw [this, cond_true, batch, if_pos c]
  · have hd : decide ((nB l : Int) = 0) = false := by simp [c]
    have hp : (0 : Int) < (nB l : Int) := by omega
    have hn : nB l ≤ 1000000000 := by unfold nB; omega
    have hlt := kB_lt c pick
    have h4 : 4 * kB l pick < l.length := by unfold nB at hlt; omega
    rw [hd, cond_false, need_true (by omega), need_true (by omega)]
    have h1 := tmod_abs pick _ hp
    have w1 : IntKind.i64.wrap (4 * Int.tmod (IntKind.i64.wrap (Int.tmod pick (nB l : Int) + (nB l : Int))) (nB l : Int)) = ((4 * kB l pick : Nat) : Int) := by
      rw [wI64 (n := _ + _) (by omega) (by omega), tmod_add _ _ hp, ← kB_cast c, wI64 (by omega) (by omega)]; omega
    have hb : batch l pick = (l.drop (4 * kB l pick)).take 4 := if_neg c
    have := loopL (body := r29_Batch_l0 pick (nB l : Int) l) ((l.drop (4 * kB l pick)).take 4) (fun i t => (((4 * kB l pick + i : Nat) : Int), t)) (fun t x => t ++ [x]) (fun t => pure t) (fun i t => t.length = i) (fun i x t hx hi hI => by
      refine ⟨?_, by simp [hI]⟩
      rw [List.length_take, List.length_drop] at hi
      unfold r29_Batch_l0
      have hd : decide (((4 * kB l pick + i : Nat) : Int) < IntKind.i64.wrap (((4 * kB l pick : Nat) : Int) + 4)) = true := by rw [wI64 (by omega) (by omega)]; simp; omega
      have hd2 : decide (((4 * kB l pick + i : Nat) : Int) < (l.length : Int)) = true := by simp; omega
      have hx2 : l[4 * kB l pick + i]? = some x := by
        rw [List.getElem?_take_of_lt (by omega), List.getElem?_drop] at hx; exact hx
      simp only [w1]
      rw [hd, cond_true, hd2, pure_bind, cond_true, idx_nat hx2, pure_bind, need_true (by simp; omega), wSucc (by omega)]
      rfl) (fun t _ => by
      unfold r29_Batch_l0
      simp only [w1]
      rw [List.length_take, List.length_drop]
      have hw : IntKind.i64.wrap (((4 * kB l pick : Nat) : Int) + 4) = ((4 * kB l pick + 4 : Nat) : Int) := by rw [wI64 (by omega) (by omega)]; rfl
      rw [hw]
      by_cases c2 : l.length - 4 * kB l pick < 4
      · have hd : decide (((4 * kB l pick + min 4 (l.length - 4 * kB l pick) : Nat) : Int) < ((4 * kB l pick + 4 : Nat) : Int)) = true := by simp; omega
        have hd2 : decide (((4 * kB l pick + min 4 (l.length - 4 * kB l pick) : Nat) : Int) < (l.length : Int)) = false := by simp; omega
        rw [hd, cond_true, hd2, pure_bind, cond_false, pure_bind]
      · have hd : decide (((4 * kB l pick + min 4 (l.length - 4 * kB l pick) : Nat) : Int) < ((4 * kB l pick + 4 : Nat) : Int)) = false := by simp; omega
        rw [hd, cond_false, pure_bind, cond_false, pure_bind]) [] rfl
    rw [w1, show ((4 * kB l pick : Nat) : Int) = ((4 * kB l pick + 0 : Nat) : Int) from rfl, this, pure_bind, foldl_snoc, List.nil_append, hb]
theorem batch_mem {l : List TEvent} {pick : Int} {e : TEvent} (h : e ∈ batch l pick) : e ∈ l := by
  unfold batch at h
  split at h
  · cases h
  · exact List.mem_of_mem_drop (List.mem_of_mem_take h)
theorem batch_len (l : List TEvent) (pick : Int) : (batch l pick).length ≤ 4 := by
  unfold batch
  split
  · simp
  · rw [List.length_take]; omega

def keepK (l : List TDot) (c : List TPart) : List TDot := D.sortD (l.filter fun d => C.hasC c d.dev d.n)
theorem Keep_eq (l : List TDot) (c : List TPart) (hl : l.length ≤ 1000000000) (hc : C.Sm c) : kills_Keep l c = pure (keepK l c) := by
  unfold kills_Keep kills_part
  have := loopL (body := kills_part_l0 l c true) l (fun i t => ((i : Int), t)) (fun t d => if C.hasC c d.dev d.n = true then t ++ [d] else t) (fun t => pure t) (fun i t => t.length ≤ i) (fun i x t hx hi hI => by
    have hd : decide ((i : Int) < (l.length : Int)) = true := by simpa using hi
    refine ⟨?_, by split
                   · simp; omega
                   · omega⟩
    unfold kills_part_l0
    simp only [hd, cond_true, idx_nat hx, pure_bind, C.Has_eq c x hc, det_pure, wSucc (show i < 9223372036854775807 by omega)]
    by_cases c : C.hasC c x.dev x.n = true
    · rw [c, show (true == true) = true from rfl, cond_true, need_true (by simp; omega), pure_bind, if_pos rfl]
    · simp only [Bool.not_eq_true] at c
      rw [c, show (false == true) = false from rfl, cond_false, pure_bind]; rfl) (fun t _ => by
    unfold kills_part_l0
    simp [pure_bind]) [] (by simp)
  have key : ∀ (l t : List TDot), l.foldl (fun t d => if C.hasC c d.dev d.n = true then t ++ [d] else t) t = t ++ l.filter fun d => C.hasC c d.dev d.n := by
    intro l
    induction l with
    | nil => intro t; simp
    | cons x r ih =>
      intro t
      rw [List.foldl_cons, ih]
      by_cases h : C.hasC c x.dev x.n = true
      · rw [if_pos h, List.filter_cons, if_pos h, List.append_assoc]; rfl
      · rw [if_neg h, List.filter_cons, if_neg h]
  rw [show (0 : Int) = ((0 : Nat) : Int) from rfl, this, pure_bind, key, List.nil_append, D.Sort_eq _ (by have := List.length_filter_le (fun d : TDot => C.hasC c d.dev d.n) l; omega), det_pure, pure_bind, det_pure, pure_bind, keepK]
theorem rKeep_eq (l : List TDot) (c : List TPart) (hl : l.length ≤ 1000000000) (hc : C.Ok c) : r17_Keep l c = pure (keepK l c) := by
  unfold r17_Keep
  have := loopL (body := r17_Keep_l0 l c) l (fun i t => (t, (i : Int))) (fun t d => if C.hasC c d.dev d.n = true then D.insD t d else t) (fun t => pure t) (fun i t => t.length ≤ i) (fun i x t hx hi hI => by
    have hd : decide ((i : Int) < (l.length : Int)) = true := by simpa using hi
    refine ⟨?_, by split
                   · have := D.ins_len t x; omega
                   · omega⟩
    unfold r17_Keep_l0
    simp only [hd, cond_true, idx_nat hx, pure_bind, C.rHas_eq c x hc, det_pure, wSucc (show i < 9223372036854775807 by omega)]
    by_cases c : C.hasC c x.dev x.n = true
    · rw [c, cond_true, D.rPut_eq t x (by omega), det_pure, pure_bind, pure_bind, if_pos rfl]
    · simp only [Bool.not_eq_true] at c
      rw [c, cond_false, pure_bind]; rfl) (fun t _ => by
    unfold r17_Keep_l0
    simp [pure_bind]) [] (by simp)
  have key : ∀ (l t : List TDot), l.foldl (fun t d => if C.hasC c d.dev d.n = true then D.insD t d else t) t = (l.filter fun d => C.hasC c d.dev d.n).foldl D.insD t := by
    intro l
    induction l with
    | nil => intro t; rfl
    | cons x r ih =>
      intro t
      rw [List.foldl_cons, ih]
      by_cases h : C.hasC c x.dev x.n = true
      · rw [if_pos h, List.filter_cons, if_pos h]; rfl
      · rw [if_neg h, List.filter_cons, if_neg h]
  rw [show (0 : Int) = ((0 : Nat) : Int) from rfl, this, pure_bind, key]; rfl
theorem keep_len (l : List TDot) (c : List TPart) : (keepK l c).length ≤ l.length := Nat.le_trans (D.sort_len _) (List.length_filter_le _ _)

def again (dev : Int) (c : List TPart) (i : Nat) (e : TEvent) : TEvent := ⟨⟨dev, (i : Int) + 1⟩, e.kind, e.cid, e.field, e.text, keepK e.kills c⟩
def replay (l : List TEvent) (dev : Int) (c : List TPart) : List TEvent := l.mapIdx (again dev c)
theorem wN {i : Nat} (h : i ≤ 1000000000) : IntKind.u64.wrap (IntKind.u64.wrap (i : Int) + 1) = (i : Int) + 1 := by rw [wU64 (n := (i : Int)) (by omega) (by omega), wU64 (by omega) (by omega)]
theorem replay_take {l : List TEvent} {i : Nat} {x : TEvent} (dev : Int) (c : List TPart) (hx : l[i]? = some x) : (replay l dev c).take (i + 1) = (replay l dev c).take i ++ [again dev c i x] := by
  have hi : (replay l dev c)[i]? = some (again dev c i x) := by rw [replay, List.getElem?_mapIdx, hx]; rfl
  rw [List.take_add_one, hi]; rfl
theorem Replay_eq (l : List TEvent) (dev : Int) (c : List TPart) (h : l.length ≤ 1000000000) (hk : ∀ e ∈ l, e.kills.length ≤ 1000000000) (hc : C.Sm c) : outbox_Replay l dev c = pure (replay l dev c) := by
  unfold outbox_Replay
  rw [need_true (by omega), Int.toNat_natCast]
  have hR : (replay l dev c).length = l.length := by simp [replay]
  have key : ∀ (k i : Nat), i + k = l.length → loop (outbox_Replay_l0 l c dev) ((i : Int), (replay l dev c).take i ++ List.replicate k ⟨⟨0, 0⟩, 0, 0, 0, ⟨#[]⟩, []⟩) = pure (replay l dev c) := by
    intro k
    induction k with
    | zero =>
      intro i hi
      refine loop_done ?_
      unfold outbox_Replay_l0
      have : decide ((i : Int) < (l.length : Int)) = false := by simp; omega
      simp only [this, cond_false, List.replicate_zero, List.append_nil]
      rw [List.take_of_length_le (by omega)]
    | succ k ih =>
      intro i hi
      obtain ⟨x, hx⟩ : ∃ x, l[i]? = some x := ⟨_, List.getElem?_eq_getElem (by omega)⟩
      have hd : decide ((i : Int) < (l.length : Int)) = true := by simp; omega
      have hT : ((replay l dev c).take i).length = i := by rw [List.length_take]; omega
      have hv : ((replay l dev c).take i ++ List.replicate (k + 1) (⟨⟨0, 0⟩, 0, 0, 0, ⟨#[]⟩, []⟩ : TEvent))[i]? = some ⟨⟨0, 0⟩, 0, 0, 0, ⟨#[]⟩, []⟩ := by
        rw [List.getElem?_append_right (by omega), hT, Nat.sub_self]; rfl
      have hset : ((replay l dev c).take i ++ List.replicate (k + 1) (⟨⟨0, 0⟩, 0, 0, 0, ⟨#[]⟩, []⟩ : TEvent)).set i (again dev c i x) = (replay l dev c).take (i + 1) ++ List.replicate k ⟨⟨0, 0⟩, 0, 0, 0, ⟨#[]⟩, []⟩ := by
        rw [List.set_append_right _ _ (by omega), hT, Nat.sub_self, List.replicate_succ, List.set_cons_zero, replay_take dev c hx, List.append_assoc]; rfl
      rw [loop_next (s' := (((i + 1 : Nat) : Int), (replay l dev c).take (i + 1) ++ List.replicate k ⟨⟨0, 0⟩, 0, 0, 0, ⟨#[]⟩, []⟩)) ?_]
      · exact ih (i + 1) (by omega)
      · unfold outbox_Replay_l0
        simp only [hd, cond_true, idx_nat hx, pure_bind, Keep_eq x.kills c (hk x (List.mem_of_getElem? hx)) hc, det_pure, idx_nat hv, wN (show i ≤ 1000000000 by omega), Int.toNat_natCast, wSucc (show i < 9223372036854775807 by omega)]
        rw [← hset]; rfl
  have := key l.length 0 (by omega)
  rw [List.take_zero, List.nil_append] at this
  exact (congrArg (fun m => M.bind m fun v5 => pure v5) this).trans (pure_bind _ _)
theorem rReplay_eq (l : List TEvent) (dev : Int) (c : List TPart) (h : l.length ≤ 1000000000) (hk : ∀ e ∈ l, e.kills.length ≤ 1000000000) (hc : C.Ok c) : r29_Replay l dev c = pure (replay l dev c) := by
  unfold r29_Replay
  have hR : (replay l dev c).length = l.length := by simp [replay]
  have key : ∀ (k i : Nat), i + k = l.length → loop (r29_Replay_l0 l c dev) ((i : Int), (replay l dev c).take i) = pure (replay l dev c) := by
    intro k
    induction k with
    | zero =>
      intro i hi
      refine loop_done ?_
      unfold r29_Replay_l0
      have : decide ((i : Int) < (l.length : Int)) = false := by simp; omega
      simp only [this, cond_false]
      rw [List.take_of_length_le (by omega)]
    | succ k ih =>
      intro i hi
      obtain ⟨x, hx⟩ : ∃ x, l[i]? = some x := ⟨_, List.getElem?_eq_getElem (by omega)⟩
      have hd : decide ((i : Int) < (l.length : Int)) = true := by simp; omega
      have hT : ((replay l dev c).take i).length = i := by rw [List.length_take]; omega
      rw [loop_next (s' := (((i + 1 : Nat) : Int), (replay l dev c).take (i + 1))) ?_]
      · exact ih (i + 1) (by omega)
      · unfold r29_Replay_l0
        simp only [hd, cond_true, idx_nat hx, pure_bind, rKeep_eq x.kills c (hk x (List.mem_of_getElem? hx)) hc, det_pure, wN (show i ≤ 1000000000 by omega), wSucc (show i < 9223372036854775807 by omega)]
        rw [need_true (by rw [hT]; simp; omega), replay_take dev c hx]; rfl
  have := key l.length 0 (by omega)
  rw [List.take_zero] at this
  rw [show (0 : Int) = ((0 : Nat) : Int) from rfl, this, pure_bind]

def e0 : TEvent := ⟨⟨0, 0⟩, 0, 0, 0, ⟨#[]⟩, []⟩
def e4 : TEvent := ⟨⟨0, 0⟩, 0, 0, 0, ⟨#[101]⟩, []⟩
def six : List TEvent := [e0, e0, e0, e0, e4, e0]
theorem works29 : l29_works = pure true := by
  have hk : ∀ e ∈ six, e.kills.length ≤ 1000000000000 := fun e he => by
    simp only [six, List.mem_cons, List.not_mem_nil, or_false] at he
    rcases he with rfl | rfl | rfl | rfl | rfl | rfl <;> exact Nat.zero_le _
  have b1 : ∀ p, outbox_Batch six p = pure (batch six p) := fun p => Batch_eq six p (by decide) hk
  have b0 : outbox_Batches six = pure 2 := Batches_eq six (by decide)
  have i0 : idx (List.replicate (Int.toNat 6) e0) 4 = pure e0 := idx_nat (i := 4) rfl
  have i4 : idx six 4 = pure e4 := idx_nat (i := 4) rfl
  have p1 : batch six 1 = [e4, e0] := rfl
  have p3 : batch six 3 = [e4, e0] := rfl
  have p0 : batch six 0 = [e0, e0, e0, e0] := rfl
  have j0 : idx [e4, e0] 0 = pure e4 := idx_nat (i := 0) rfl
  have hs : List.set (List.replicate (Int.toNat 6) e0) (Int.toNat 4) e4 = six := rfl
  unfold l29_works
  rw [need_true (by decide)]
  show (idx (List.replicate (Int.toNat 6) e0) 4).bind _ = _
  rw [i0, pure_bind]
  show ((det (outbox_Batches six)).bind fun v5 => cond (decide (v5 = 2)) ((det (outbox_Batch six 1)).bind fun v8 => cond (decide ((v8.length : Int) = 2)) ((det (outbox_Batch six 3)).bind fun v11 => cond (decide ((v11.length : Int) = 2)) ((det (outbox_Batch six 0)).bind fun v14 => cond (decide ((v14.length : Int) = 4)) ((det (outbox_Batch six 3)).bind fun v17 => (idx v17 0).bind fun x19 => (idx six 4).bind fun x21 => (det (r13_Same x19 x21)).bind fun v23 => pure v23) (pure false)) (pure false)) (pure false)) (pure false)).bind (fun v4 => pure v4) = _
  rw [b0, b1, b1, b1, p1, p3, p0]
  simp only [det_pure, pure_bind, j0, i4]
  rw [rSame_eq e4 e4 (Nat.zero_le _), det_pure, pure_bind]
  rfl
theorem outboxParts_eq (l : List TEvent) (pick : Int) (c : List TPart) (hc : ∀ p ∈ c, 0 ≤ p.dev) : l29_OutboxParts l pick c = pure true := by
  unfold l29_OutboxParts
  rw [show r13_Few l 30 = pure (fewE l 30) from rFew_eq l 30 (by decide), det_pure, pure_bind, works29, C.rFew_eq, det_pure, pure_bind]
  cases hf : fewE l 30 with
  | false => simp only [Bool.not_false, cond_true, det_pure, pure_bind]
  | true =>
    simp only [Bool.not_true, cond_false, pure_bind]
    cases hg : (decide (c.length ≤ 30) && c.all fun p => decide (p.runs.length ≤ 30)) with
    | false => simp only [Bool.not_false, cond_true, det_pure, pure_bind]
    | true =>
      obtain ⟨h1, h2⟩ := few_mem hf
      have hcc := C.few_tot hg
      have ho := C.ok_few hc hcc
      have hk : ∀ e ∈ l, e.kills.length ≤ 1000000000 := fun e he => by have := (h2 e he).1; omega
      have hb := batch_len l pick
      have hr : (replay l (IntKind.u16.wrap pick) c).length = l.length := by simp [replay]
      have hrk : ∀ e ∈ replay l (IntKind.u16.wrap pick) c, e.kills.length ≤ 1000000000000 := fun e he => by
        obtain ⟨i, hi⟩ := List.mem_iff_getElem?.1 he
        rw [replay, List.getElem?_mapIdx] at hi
        cases hx : l[i]? with
        | none => rw [hx] at hi; cases hi
        | some x =>
          rw [hx] at hi
          cases hi
          have h3 := keep_len x.kills c
          have h4 := hk x (List.mem_of_getElem? hx)
          show (keepK x.kills c).length ≤ _
          omega
      simp only [Bool.not_true, cond_false, Batches_eq l (by omega), rBatches_eq l (by omega), det_pure, pure_bind, decide_true, cond_true, Batch_eq l pick (by omega) (fun e he => by have := hk e he; omega), rBatch_eq l pick (by omega),
        rAll_eq (batch l pick) (batch l pick) (by omega) (fun e he => by have := hk e (batch_mem he); omega), Replay_eq l (IntKind.u16.wrap pick) c (by omega) hk ho.sm, rReplay_eq l (IntKind.u16.wrap pick) c (by omega) hk ho, rAll_eq _ _ (show (replay l (IntKind.u16.wrap pick) c).length ≤ 1000000000000 by omega) hrk]
end Go.Ep.M.E

namespace Go.Ep
open Go.RowKit Go.ChangeShapes Go.WideShapes

abbrev All : Nat → Prop := fun _ => True

mutual
/-- How many values and letters a reading holds. -/
def bulk {H : Type} : DataW H → Nat
  | .lit (.string bytes) => bytes.length + 1
  | .lit _ => 1
  | .nil => 1
  | .ptr d => bulk d + 1
  | .slice elems spare => bulkAll elems + bulkAll spare + 1
  | .agg parts => bulkAll parts + 1
  | .iface _ d => bulk d + 1
  | .map entries => bulkEntries entries + 1
  | .held _ => 1
def bulkAll {H : Type} : List (DataW H) → Nat
  | [] => 0
  | d :: r => bulk d + bulkAll r
def bulkEntries {H : Type} : List (Lit × DataW H) → Nat
  | [] => 0
  | x :: r => bulkEntry x + bulkEntries r
def bulkEntry {H : Type} : Lit × DataW H → Nat
  | (.string bytes, d) => bytes.length + bulk d + 1
  | (_, d) => bulk d + 1
end
theorem one_bulk {H : Type} (d : DataW H) : 1 ≤ bulk d := by
  cases d with
  | lit l => cases l <;> simp [bulk]
  | nil => simp [bulk]
  | ptr d => simp [bulk]
  | slice elems spare => simp [bulk]
  | agg parts => simp [bulk]
  | iface t d => simp [bulk]
  | map entries => simp [bulk]
  | held h => simp [bulk]
theorem bulkAll_app {H : Type} (l r : List (DataW H)) : bulkAll (l ++ r) = bulkAll l + bulkAll r := by
  induction l with
  | nil => simp [bulkAll]
  | cons x l ih => simp only [List.cons_append, bulkAll, ih]; omega
def szL {α : Type} (sz : α → Nat) : List α → Nat
  | [] => 0
  | a :: r => sz a + szL sz r
theorem szL_app {α : Type} (sz : α → Nat) (l r : List α) : szL sz (l ++ r) = szL sz l + szL sz r := by
  induction l with
  | nil => simp [szL]
  | cons x l ih => simp only [List.cons_append, szL, ih]; omega
/-- What is read at this type is data of this kind. -/
structure Opn (P : Program) (t : TypeId) (k : Nat) {α : Type} (enc : α → List DV) (ok : α → Prop) (sz : α → Nat) : Prop where
  cells : P.cellsOf t = k
  op : ∀ {H : Type} {en : TypeId × Value → H} {w : World} {fuel : Nat} {cs : List Value} {x : DataW H × List MemPlace}, DataW.trod en P w 0 (fun _ => true) true fuel t cs = some x →
    ∃ a, ok a ∧ cs.length = k ∧ (enc a).length = k ∧ (∀ (j : Nat) (y : DV) (u : Value), (enc a)[j]? = some y → cs[j]? = some u → DRd w All y u) ∧ sz a ≤ bulk x.1

section
variable {P : Program} {t : TypeId}

theorem Opn.map {k : Nat} {α β : Type} {enc : α → List DV} {enc' : β → List DV} {ok : α → Prop} {ok' : β → Prop} {sz : α → Nat} {sz' : β → Nat} (h : Opn P t k enc ok sz) (f : α → β) (he : ∀ a, ok a → enc' (f a) = enc a) (ho : ∀ a, ok a → ok' (f a)) (hz : ∀ a, sz' (f a) ≤ sz a) : Opn P t k enc' ok' sz' :=
  ⟨h.cells, fun hx => let ⟨a, h1, h2, h3, h4, h5⟩ := h.op hx; ⟨f a, ho a h1, h2, by rw [he a h1]; exact h3, by rw [he a h1]; exact h4, Nat.le_trans (hz a) h5⟩⟩

theorem one_get {w : World} {y : DV} {u : Value} (h : DRd w All y u) : ∀ (j : Nat) (y' : DV) (u' : Value), [y][j]? = some y' → [u][j]? = some u' → DRd w All y' u' := by
  intro j y' u' h1 h2
  cases j with
  | zero => simp at h1 h2; subst h1; subst h2; exact h
  | succ j => simp at h1

def okK (k : IntKind) (n : Int) : Prop := (Lit.int k n).wf = true
theorem Opn.int {k : IntKind} (hu : P.underlying t = some (.int k)) (hc : P.cellsOf t = 1) : Opn P t 1 (eK k) (okK k) (fun _ => 1) := by
  refine ⟨hc, fun {H en w fuel cs x} h => ?_⟩
  cases fuel with
  | zero => simp [DataW.trod] at h
  | succ fuel =>
    unfold DataW.trod at h
    rw [hu] at h
    split at h <;> simp_all
    case h_2 n _ =>
      obtain ⟨⟨h1, h2⟩, _⟩ := h
      subst h1
      refine ⟨n, h2, rfl, ?_, one_bulk _⟩
      intro j y u h1 h3
      exact one_get (.v _ rfl) j y u h1 h3
theorem okU16 {n : Int} (h : okK .u16 n) : 0 ≤ n ∧ n < 65536 := by
  simp [okK, Lit.wf, IntKind.min, IntKind.max, IntKind.signed, IntKind.bits] at h; omega
theorem Opn.str (hu : P.underlying t = some .string) (hc : P.cellsOf t = 1) : Opn P t 1 eS (fun s => s.size ≤ 9223372036854775807) (fun s => s.size + 1) := by
  refine ⟨hc, fun {H en w fuel cs x} h => ?_⟩
  cases fuel with
  | zero => simp [DataW.trod] at h
  | succ fuel =>
    unfold DataW.trod at h
    rw [hu] at h
    split at h <;> simp_all
    case h_4 =>
      rename_i s
      obtain ⟨h1, h2⟩ := h
      refine ⟨s, by have := h1; unfold maxLen at this; exact this, rfl, ?_, ?_⟩
      · intro j y u h1 h2
        exact one_get (.v _ rfl) j y u h1 h2
      · subst h2
        have e : s.data.toList.length = s.size := Array.length_toList
        show s.size + 1 ≤ bulk (DataW.lit (Lit.string s.data.toList))
        unfold bulk
        omega

theorem Opn.slice {e : TypeId} {k : Nat} {α : Type} {enc : α → List DV} {ok : α → Prop} {sz : α → Nat} (h : Opn P e k enc ok sz) (hu : P.underlying t = some (.slice e)) (hc : P.cellsOf t = 1) (hk : 0 < k) :
    Opn P t 1 (eL enc) (fun l => l.length ≤ 9223372036854775807 ∧ ∀ a ∈ l, ok a) (fun l => szL sz l + 1) := by
  refine ⟨hc, fun {H en w fuel cs x} hx => ?_⟩
  rcases Deep.open_slice hu hx with ⟨rfl, _⟩ | ⟨a, len, cap, m, n, D, Pl, rfl, _, hl, hm, hmm, hxD, hel⟩
  · exact ⟨[], ⟨Nat.zero_le _, by simp⟩, rfl, rfl, one_get (.nil none 0 (Nat.zero_le _) (fun _ => rfl)), one_bulk _⟩
  simp only [if_true] at hmm
  subst hmm
  rw [h.cells] at hel
  have hcut : ∀ n0, n0 ≤ len → ∃ l : List α, l.length = n0 ∧ (∀ a ∈ l, ok a) ∧ szL sz l ≤ bulkAll ((List.range n0).map D) ∧ ∀ (i : Nat) (b : α), l[i]? = some b → (enc b).length = k ∧ ∀ (j : Nat) (y : DV), (enc b)[j]? = some y → ∃ u, w.cell? (a.add (i * k + j)) = some u ∧ DRd w All y u := by
    intro n0
    induction n0 with
    | zero => intro _; exact ⟨[], rfl, by simp, by simp [szL], by simp⟩
    | succ n0 ih =>
      intro hn
      obtain ⟨l, h1, h2, hz, h3⟩ := ih (by omega)
      obtain ⟨cs', hc', ht'⟩ := hel n0 (by omega)
      obtain ⟨b, hb1, hb2, hb3, hb4, hb5⟩ := h.op ht'
      obtain ⟨_, _, hcell⟩ := World.cells?_some hc'
      refine ⟨l ++ [b], by simp [h1], ?_, by rw [szL_app, List.range_succ, List.map_append, bulkAll_app]; simp only [szL, List.map_cons, List.map_nil, bulkAll]; simp only at hb5; omega, ?_⟩
      · intro a ha
        rcases List.mem_append.1 ha with ha | ha
        · exact h2 a ha
        · simp at ha; subst ha; exact hb1
      · intro i b' hi
        rw [List.getElem?_append] at hi
        split at hi
        · exact h3 i b' hi
        · rename_i hge
          have hi0 : i = n0 := by
            have : i - l.length < 1 := by simpa using (List.getElem?_eq_some_iff.1 hi).1
            omega
          subst hi0
          simp [h1] at hi
          subst hi
          refine ⟨hb3, fun j y hy => ?_⟩
          have hj : j < k := by rw [← hb3]; exact (List.getElem?_eq_some_iff.1 hy).1
          have hcj := hcell j hj
          rw [Deep.add_add] at hcj
          have hu' : cs'[j]? = some (cs'[j]'(by omega)) := List.getElem?_eq_getElem (by omega)
          exact ⟨_, by rw [hcj, hu'], hb4 j y _ hy hu'⟩
  obtain ⟨l, h1, h2, hz, h3⟩ := hcut len (Nat.le_refl _)
  refine ⟨l, ⟨by unfold maxLen at hm; omega, h2⟩, rfl, rfl, one_get ?_, ?_⟩
  rotate_left
  · rw [hxD]; simp only [bulk]; omega
  by_cases h0 : len = 0
  · have : l = [] := List.eq_nil_of_length_eq_zero (by omega)
    subst this
    subst h0
    exact .nil _ _ hm (fun e => by cases e)
  · -- the first cell tells that the address is a plain one
    have hl0 : 0 < l.length := by omega
    obtain ⟨hk0, hc0⟩ := h3 0 _ (List.getElem?_eq_getElem hl0)
    obtain ⟨u0, hu0, _⟩ := hc0 0 _ (List.getElem?_eq_getElem (by omega : 0 < (enc l[0]).length))
    have hspot : a.spot = none := by simpa [Addr.add] using World.cell?_spot hu0
    obtain ⟨b, off, spot⟩ := a
    simp only at hspot
    subst hspot
    have hb : b < w.heap.size := by
      rw [Addr.add_lit] at hu0
      unfold World.cell? at hu0
      cases hh : w.heap[b]? with
      | none => simp [hh] at hu0
      | some o => exact (Array.getElem?_eq_some_iff.1 hh).1
    have hlen : (l.map enc).length = len := by simp [h1]
    rw [← hlen]
    refine .sl _ b off m k (fun i j => (w.cell? ⟨b, off + (i * k + j), none⟩).getD undef) (by omega) hm trivial hb ?_ ?_ ?_
    · intro i cs hi
      rw [List.getElem?_map] at hi
      cases hx : l[i]? with
      | none => simp [hx] at hi
      | some y => simp [hx] at hi; subst hi; exact (h3 i y hx).1
    · intro i j hi hj
      have hil : i < l.length := by simpa using hi
      obtain ⟨e1, e2⟩ := h3 i _ (List.getElem?_eq_getElem hil)
      obtain ⟨u, hu, _⟩ := e2 j _ (List.getElem?_eq_getElem (by omega : j < (enc l[i]).length))
      rw [Addr.add_lit] at hu
      simp [hu]
    · intro i cs j x hi hx
      rw [List.getElem?_map] at hi
      cases hy : l[i]? with
      | none => simp [hy] at hi
      | some y =>
        simp [hy] at hi
        subst hi
        obtain ⟨u, hu, hd⟩ := (h3 i y hy).2 j x hx
        rw [Addr.add_lit] at hu
        simpa [hu] using hd

/-- The fields from offset off on. -/
structure OpnF (P : Program) (fs : List Field) (off k : Nat) {α : Type} (enc : α → List DV) (ok : α → Prop) (sz : α → Nat) : Prop where
  op : ∀ {H : Type} {en : TypeId × Value → H} {w : World} {n : Nat} {cs : List Value} {xs : List (DataW H × List MemPlace)}, xs.length = fs.length →
    (∀ (i : Nat) (f : Field), fs[i]? = some f → DataW.trod en P w 0 (fun _ => true) true n f.type ((cs.drop f.offset).take (P.cellsOf f.type)) = xs[i]?) →
    ∃ a, ok a ∧ (enc a).length = k ∧ (∀ (j : Nat) (y : DV) (u : Value), (enc a)[j]? = some y → cs[off + j]? = some u → DRd w All y u) ∧ sz a ≤ bulkAll (xs.map (·.1))

theorem OpnF.nil (off : Nat) : OpnF P [] off 0 (fun _ : Unit => []) (fun _ => True) (fun _ => 0) := ⟨fun _ _ => ⟨(), trivial, rfl, by simp, Nat.zero_le _⟩⟩
theorem OpnF.cons {f : Field} {fs : List Field} {off k1 k2 : Nat} {α β : Type} {e1 : α → List DV} {o1 : α → Prop} {e2 : β → List DV} {o2 : β → Prop} {z1 : α → Nat} {z2 : β → Nat} (h1 : Opn P f.type k1 e1 o1 z1) (ho : f.offset = off) (h2 : OpnF P fs (off + k1) k2 e2 o2 z2) :
    OpnF P (f :: fs) off (k1 + k2) (fun p : α × β => e1 p.1 ++ e2 p.2) (fun p => o1 p.1 ∧ o2 p.2) (fun p => z1 p.1 + z2 p.2) := by
  refine ⟨fun {H en w n cs xs} hlen hx => ?_⟩
  cases xs with
  | nil => simp at hlen
  | cons x xs =>
    have hx0 := hx 0 f rfl
    simp only [List.getElem?_cons_zero] at hx0
    obtain ⟨a, ha1, ha2, ha3, ha4, ha5⟩ := h1.op hx0
    obtain ⟨b, hb1, hb2, hb3, hb4⟩ := h2.op (xs := xs) (by simpa using hlen) (fun i f' hf => by have := hx (i + 1) f' (by simpa using hf); simpa using this)
    refine ⟨(a, b), ⟨ha1, hb1⟩, by simp [ha3, hb2], ?_, by simp only [List.map_cons, bulkAll]; omega⟩
    intro j y u hy hu
    simp only [List.getElem?_append] at hy
    by_cases hj : j < k1
    · rw [if_pos (by omega)] at hy
      refine ha4 j y u hy ?_
      rw [List.getElem?_take, h1.cells, if_pos hj, List.getElem?_drop, ho]
      exact hu
    · rw [if_neg (by omega), ha3] at hy
      refine hb3 (j - k1) y u hy ?_
      rw [← hu]
      congr 1
      omega
theorem Opn.struct {fs : List Field} {k : Nat} {α : Type} {enc : α → List DV} {ok : α → Prop} {sz : α → Nat} (hu : P.underlying t = some (.struct fs.toArray)) (hc : P.cellsOf t = k) (h : OpnF P fs 0 k enc ok sz) : Opn P t k enc ok (fun a => sz a + 1) := by
  refine ⟨hc, fun {H en w fuel cs x} hx => ?_⟩
  obtain ⟨xs, n, _, hxe, hlen, hxl, hf⟩ := DataW.trod_struct hu hx
  obtain ⟨a, h1, h2, h3, h4⟩ := h.op (cs := cs) (xs := xs) (by simpa using hxl) (fun i f hi => hf i f (by simpa using hi))
  exact ⟨a, h1, by rw [hlen, hc], h2, fun j y u hy hu => h3 j y u hy (by simpa using hu), by rw [hxe]; simp only [bulk]; omega⟩

/-- A one-cell argument. -/
theorem Opn.arg {H : Type} {en : TypeId × Value → H} {w : World} {v : Value} {d : DataW H} {ps : List MemPlace} {α : Type} {enc : α → DV} {ok : α → Prop} {sz : α → Nat} (h : Opn P t 1 (fun a => [enc a]) ok sz)
    (hx : DataW.Trod en P w 0 (fun _ => true) true t v d ps) (h1 : v.oneCell' = true) : ∃ a, ok a ∧ Rd w g0 All (.d (enc a)) v ∧ sz a ≤ bulk d := by
  obtain ⟨fuel, hf⟩ := hx
  obtain ⟨a, ha, _, _, hr, hz⟩ := h.op hf
  have hcs : v.cells.toList = [v] := by cases v <;> first | rfl | (simp [Value.oneCell'] at h1; done)
  exact ⟨a, ha, .d (hr 0 _ v rfl (by rw [hcs]; rfl)), hz⟩
theorem trodAll_below {H : Type} {en : TypeId × Value → H} (hl : laidOutB P = true) {W W' : World} (hb : Below W.heap.size W W') : ∀ {ts : List TypeId} {vs : List Value} {ds : List (DataW H)} {ps : List MemPlace},
    (∀ t ∈ ts, P.readableRec t = true ∧ t < P.types.size) → DataW.TrodAll en P W 0 (fun _ => true) true ts vs ds ps → (∀ x ∈ ps, x.block < W.heap.size) → DataW.TrodAll en P W' 0 (fun b => decide (b < W.heap.size)) true ts vs ds ps
  | [], [], [], ps, _, h, _ => h
  | t :: ts, v :: vs, d :: ds, ps, hr, h, hlt => by
    obtain ⟨p, q, h1, h2, rfl⟩ := h
    have hrt := hr t (by simp)
    exact ⟨p, q, Below.trod hl hrt.1 hrt.2 h1 hb (fun x hx => hlt x (List.mem_append.2 (.inl hx))), trodAll_below hl hb (fun t ht => hr t (by simp [ht])) h2 (fun x hx => hlt x (List.mem_append.2 (.inr hx))), rfl⟩
  | [], [], _ :: _, _, _, h, _ => h.elim
  | [], _ :: _, _, _, _, h, _ => h.elim
  | _ :: _, [], _, _, _, h, _ => h.elim
  | _ :: _, _ :: _, [], _, _, h, _ => h.elim
theorem trodAll_len {H : Type} {en : TypeId × Value → H} {w : World} {base : Nat} {sp : Nat → Bool} {hd : Bool} : ∀ {ts : List TypeId} {vs : List Value} {ds : List (DataW H)} {ps : List MemPlace}, DataW.TrodAll en P w base sp hd ts vs ds ps → ds.length = ts.length
  | [], [], [], _, _ => rfl
  | _ :: _, _ :: _, _ :: _, _, h => by
    obtain ⟨_, _, _, h2, _⟩ := h
    simp [trodAll_len h2]
  | [], [], _ :: _, _, h => h.elim
  | [], _ :: _, _, _, h => h.elim
  | _ :: _, [], _, _, h => h.elim
  | _ :: _, _ :: _, [], _, h => h.elim

/-- 'For every input true; the input reads as it did.' -/
theorem post_true {H : Type} {en : TypeId × Value → H} {fn : Func} {s : ChangeSpec} {tb : TypeId} {W W' : World} {args : Array Value} {ds gs : List (DataW H)} {before : List MemPlace} (hl : laidOutB P = true)
    (hW : DataW.Whole en P fn.params.toList s.vars false W args.toList ds gs before) (hv : s.vars = []) (hs : ∀ ds : List (DataW H), ds.length = fn.params.size → (s.fn H ds).results = [.lit (.bool true)] ∧ (s.fn H ds).args = ds ∧ (s.fn H ds).vars = [])
    (hres : fn.resultTypes = #[tb]) (htb : P.underlying tb = some .bool) (hr : ∀ t ∈ fn.params.toList, P.readableRec t = true ∧ t < P.types.size) (hb : Below W.heap.size W W') :
    s.post en P fn false true false false W args (.bool true) W' := by
  have hW' := hW
  obtain ⟨p, q, hA, hV, hpq, hfz, hnd⟩ := hW
  rw [hv] at hV
  obtain ⟨rfl, rfl⟩ := trodVars_none hV
  simp only [List.append_nil] at hpq
  subst hpq
  have hlt : ∀ x ∈ before, x.block < W.heap.size := fun x hx => by simpa using hW'.lt x hx
  have hlen : ds.length = fn.params.size := by simpa using trodAll_len hA
  obtain ⟨e1, e2, e3⟩ := hs (ds ++ []) (by simpa using hlen)
  refine ⟨ds, [], before, [], before, [], hW', ?_, ?_, ?_, hb.frame _, fun h => by cases h⟩
  · rw [e1, hres]
    exact trodAll_mk1 (shut_bool htb true)
  · rw [e2, List.append_nil]
    exact trodAll_below hl hb hr hA hlt
  · rw [e3, hv]; rfl
end
end Go.Ep

namespace Go.Ep
set_option linter.unusedVariables false

def TDot.ok (x : TDot) : Prop := okK .u16 x.dev ∧ okK .u64 x.n
def TDot.sz (x : TDot) : Nat := (1 + (1 + 0)) + 1
def TRun.ok (x : TRun) : Prop := okK .u64 x.lo ∧ okK .u64 x.hi
def TRun.sz (x : TRun) : Nat := (1 + (1 + 0)) + 1
def TPart.ok (x : TPart) : Prop := okK .u16 x.dev ∧ (List.length x.runs ≤ 9223372036854775807 ∧ ∀ a ∈ x.runs, TRun.ok a)
def TPart.sz (x : TPart) : Nat := (1 + ((szL TRun.sz x.runs + 1) + 0)) + 1
def TEvent.ok (x : TEvent) : Prop := TDot.ok x.dot ∧ okK .u8 x.kind ∧ okK .u64 x.cid ∧ okK .u8 x.field ∧ ByteArray.size x.text ≤ 9223372036854775807 ∧ (List.length x.kills ≤ 9223372036854775807 ∧ ∀ a ∈ x.kills, TDot.ok a)
def TEvent.sz (x : TEvent) : Nat := (TDot.sz x.dot + (1 + (1 + (1 + ((ByteArray.size x.text + 1) + ((szL TDot.sz x.kills + 1) + 0)))))) + 1
end Go.Ep
namespace Go.Proofs
open Go.Ep
set_option maxRecDepth 100000
theorem opnTDot : Opn Try.prog 38 2 TDot.e TDot.ok TDot.sz := (Opn.struct Try.underlying38 (by kernel_rfl) (OpnF.cons (Opn.int Try.underlying28 (by kernel_rfl)) rfl (OpnF.cons (Opn.int Try.underlying36 (by kernel_rfl)) rfl (OpnF.nil _)))).map (fun p => ⟨p.1, p.2.1⟩) (fun _ _ => rfl) (fun p h => ⟨h.1, h.2.1⟩) (fun _ => Nat.le_refl _)
theorem opnTRun : Opn Try.prog 114 2 TRun.e TRun.ok TRun.sz := (Opn.struct Try.underlying114 (by kernel_rfl) (OpnF.cons (Opn.int Try.underlying36 (by kernel_rfl)) rfl (OpnF.cons (Opn.int Try.underlying36 (by kernel_rfl)) rfl (OpnF.nil _)))).map (fun p => ⟨p.1, p.2.1⟩) (fun _ _ => rfl) (fun p h => ⟨h.1, h.2.1⟩) (fun _ => Nat.le_refl _)
theorem opnTPart : Opn Try.prog 101 2 TPart.e TPart.ok TPart.sz := (Opn.struct Try.underlying101 (by kernel_rfl) (OpnF.cons (Opn.int Try.underlying28 (by kernel_rfl)) rfl (OpnF.cons (opnTRun.slice Try.underlying34 (by kernel_rfl) (by decide)) rfl (OpnF.nil _)))).map (fun p => ⟨p.1, p.2.1⟩) (fun _ _ => rfl) (fun p h => ⟨h.1, h.2.1⟩) (fun _ => Nat.le_refl _)
theorem opnTEvent : Opn Try.prog 41 7 TEvent.e TEvent.ok TEvent.sz := (Opn.struct Try.underlying41 (by kernel_rfl) (OpnF.cons opnTDot rfl (OpnF.cons (Opn.int Try.underlying5 (by kernel_rfl)) rfl (OpnF.cons (Opn.int Try.underlying36 (by kernel_rfl)) rfl (OpnF.cons (Opn.int Try.underlying5 (by kernel_rfl)) rfl (OpnF.cons (Opn.str Try.underlying9 (by kernel_rfl)) rfl (OpnF.cons (opnTDot.slice Try.underlying39 (by kernel_rfl) (by decide)) rfl (OpnF.nil _)))))))).map (fun p => ⟨p.1, p.2.1, p.2.2.1, p.2.2.2.1, p.2.2.2.2.1, p.2.2.2.2.2.1⟩) (fun _ _ => rfl) (fun p h => ⟨h.1, h.2.1, h.2.2.1, h.2.2.2.1, h.2.2.2.2.1, h.2.2.2.2.2.1⟩) (fun _ => Nat.le_refl _)
end Go.Proofs

