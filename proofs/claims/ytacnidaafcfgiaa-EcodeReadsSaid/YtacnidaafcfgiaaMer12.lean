/- Texts that the walks and laws lean on, side by side. -/
import Derived.ProofKit
import Derived.Deep.Slices
import Derived.Test.YtacnidaafcfgiaaProg
import Derived.KernelRfl
import Derived.Test.YtacnidaafcfgiaaMer2
import Derived.Test.YtacnidaafcfgiaaMer11
set_option linter.unusedVariables false
set_option linter.unusedSimpArgs false
namespace Go.Ep.M.E
open Go

theorem bytes_len (s : ByteArray) : (bytesL s).length = s.size := by simp [bytesL]
theorem strL_data (l : List Int) : (strL l).data.toList = l.map fun n => UInt8.ofNat n.toNat := by
  have key : ∀ (l : List Int) (r : ByteArray), (l.foldl (fun r n => r.push (UInt8.ofNat n.toNat)) r).data.toList = r.data.toList ++ l.map fun n => UInt8.ofNat n.toNat := by
    intro l
    induction l with
    | nil => intro r; simp
    | cons x t ih => intro r; rw [List.foldl_cons, ih]; simp
  have := key l ByteArray.empty
  simpa [strL] using this
theorem bytes_strL {l : List Int} (h : N.By l) : bytesL (strL l) = l := by
  rw [bytesL, strL_data, List.map_map]
  apply List.ext_getElem?
  intro i
  rw [List.getElem?_map]
  cases hx : l[i]? with
  | none => rfl
  | some x =>
    have := h x (List.mem_of_getElem? hx)
    simp only [Option.map_some, Function.comp_apply, UInt8.toNat_ofNat']
    congr 1; omega
theorem strL_size (l : List Int) : (strL l).size = l.length := by
  have := congrArg List.length (strL_data l)
  simpa using this

def cidD (v : Int) : TDot := ⟨v / 281474976710656, v % 281474976710656⟩
theorem band48 {v : Int} (h0 : 0 ≤ v) (h : v ≤ 18446744073709551615) : bAnd .u64 v 281474976710655 = v % 281474976710656 := by
  obtain ⟨n, rfl⟩ := Int.eq_ofNat_of_zero_le h0
  unfold bAnd
  have bv : ∀ q : Nat, q < 18446744073709551616 → (BitVec.ofInt IntKind.u64.bits (q : Int)).toNat = q := fun q hq => by
    show (BitVec.ofInt 64 (q : Int)).toNat = q
    rw [BitVec.toNat_ofInt]; omega
  have e : (281474976710655 : Int) = ((281474976710655 : Nat) : Int) := rfl
  rw [e, BitVec.toNat_and, bv n (by omega), bv _ (by decide)]
  have h2 : n &&& 281474976710655 = n % 281474976710656 := Nat.and_two_pow_sub_one_eq_mod n 48
  rw [h2, wU64 (by omega) (by omega)]
  omega
theorem Split_eq {v : Int} (h0 : 0 ≤ v) (h : v ≤ 18446744073709551615) : shift_Split v = pure ((cidD v).dev, (cidD v).n) := by
  unfold shift_Split cidD
  have e : (2 ^ 48 : Int) = 281474976710656 := rfl
  rw [band48 h0 h, Int.fdiv_eq_ediv_of_nonneg _ (by decide), e, wU16 (by omega) (by omega)]
theorem rSplit_eq {v : Int} (h0 : 0 ≤ v) (h : v ≤ 18446744073709551615) : r01_Split v = pure ((cidD v).dev, (cidD v).n) := by
  unfold r01_Split cidD
  rw [Int.tdiv_eq_ediv_of_nonneg h0, Int.tmod_eq_emod_of_nonneg h0, wU64 (by omega) (by omega), wU16 (by omega) (by omega)]
def goodC (v : Int) : Bool := V.goodD (cidD v)
theorem Unpack_eq {v : Int} (h0 : 0 ≤ v) (h : v ≤ 18446744073709551615) : dot_Unpack v = pure (if goodC v = true then cidD v else ⟨0, 0⟩, goodC v) := by
  unfold dot_Unpack
  rw [Split_eq h0 h, det_pure, pure_bind, V.dot_Good_eq, det_pure, pure_bind]
  show cond (!goodC v) _ _ = _
  cases goodC v <;> rfl
theorem rUnpack_eq {v : Int} (h0 : 0 ≤ v) (h : v ≤ 18446744073709551615) : r07_Unpack v = pure (if goodC v = true then cidD v else ⟨0, 0⟩, goodC v) := by
  unfold r07_Unpack
  rw [rSplit_eq h0 h, det_pure, pure_bind, V.r07_Good_eq, det_pure, pure_bind]
  show cond (!goodC v) _ _ = _
  cases goodC v <;> rfl

def goodF (f : Int) : Bool := decide (1 ≤ f) && decide (f ≤ 5)
theorem Field_eq (f : Int) : field_Good f = pure (goodF f) := by unfold field_Good goodF; rw [cond_pure_and]; rfl
theorem rField_eq (f : Int) : r11_Good f = pure (goodF f) := by unfold r11_Good goodF; rw [cond_pure_and]; rfl
def okB (x : Int) : Bool := decide (32 ≤ x) && decide (x ≤ 126)
def goodT (s : ByteArray) : Bool := decide (s.size ≤ 60) && (bytesL s).all okB
theorem all_zip {α : Type} (l : List α) (p : α → Bool) : (l.zipIdx.all fun y => p y.1) = l.all p := by
  rw [Bool.eq_iff_iff, List.all_eq_true, List.all_eq_true]
  constructor
  · intro h x hx
    obtain ⟨i, hi⟩ := List.getElem?_of_mem hx
    exact h (x, i) (by rw [List.mk_mem_zipIdx_iff_getElem?]; exact hi)
  · intro h y hy
    exact h y.1 (List.fst_mem_of_mem_zipIdx hy)
theorem okB_eq (x : Int) (f : M Bool) (hf : f = pure (decide (126 < x))) : (cond (decide (x < 32)) (pure true) f : M Bool) = pure (!okB x) := by
  rw [hf]
  unfold okB
  by_cases h1 : x < 32
  · have : ¬ 32 ≤ x := by omega
    simp [h1, this]
  · have : 32 ≤ x := by omega
    by_cases h2 : 126 < x
    · have : ¬ x ≤ 126 := by omega
      simp [h1, h2, this]
    · have : x ≤ 126 := by omega
      simp [h1, h2, *]
theorem text_loop (s : ByteArray) (hs : s.size ≤ 1000000000000) : loop (field_Text_l0 s) 0 = pure (if (bytesL s).all okB = true then Ex.brk () else Ex.ret false) := by
  have := loopAll (body := field_Text_l0 s) (bytesL s) (fun i => (i : Int)) (fun _ x => okB x) (Ex.brk ()) (Ex.ret false) (fun i x hx hi => by
    have hd : decide ((i : Int) < (s.size : Int)) = true := by rw [← bytes_len]; simpa using hi
    have hi2 : i < s.size := by rw [← bytes_len]; exact hi
    unfold field_Text_l0
    simp only [hd, cond_true, idx_nat hx, pure_bind, okB_eq x _ rfl, wSucc (show i < 9223372036854775807 by omega)]
    cases okB x <;> rfl) (by
    unfold field_Text_l0
    simp [bytes_len])
  rw [show (0 : Int) = ((0 : Nat) : Int) from rfl, this, all_zip]
theorem rtext_loop (s : ByteArray) (hs : s.size ≤ 1000000000000) : loop (r11_Text_l0 s) 0 = pure (if (bytesL s).all okB = true then Ex.brk () else Ex.ret false) := by
  have := loopAll (body := r11_Text_l0 s) (bytesL s) (fun i => (i : Int)) (fun _ x => okB x) (Ex.brk ()) (Ex.ret false) (fun i x hx hi => by
    have hd : decide ((i : Int) < (s.size : Int)) = true := by rw [← bytes_len]; simpa using hi
    have hi2 : i < s.size := by rw [← bytes_len]; exact hi
    unfold r11_Text_l0
    simp only [hd, cond_true, idx_nat hx, pure_bind, okB_eq x _ rfl, wSucc (show i < 9223372036854775807 by omega)]
    cases okB x <;> rfl) (by
    unfold r11_Text_l0
    simp [bytes_len])
  rw [show (0 : Int) = ((0 : Nat) : Int) from rfl, this, all_zip]
theorem Text_eq (s : ByteArray) (hs : s.size ≤ 1000000000000) : field_Text s = pure (goodT s) := by
  unfold field_Text goodT
  rw [text_loop s hs]
  by_cases h : s.size ≤ 60
  · have : decide ((60 : Int) < (s.size : Int)) = false := by simp; omega
    rw [this, cond_false, pure_bind, decide_eq_true h, Bool.true_and]
    cases (bytesL s).all okB <;> rfl
  · have : decide ((60 : Int) < (s.size : Int)) = true := by simp; omega
    rw [this, cond_true, decide_eq_false h, Bool.false_and]
theorem rText_eq (s : ByteArray) (hs : s.size ≤ 1000000000000) : r11_Text s = pure (goodT s) := by
  unfold r11_Text goodT
  rw [rtext_loop s hs, pure_bind]
  cases (bytesL s).all okB with
  | false => rw [Bool.and_false]; rfl
  | true =>
    rw [if_pos rfl, exk_brk, Bool.and_true]
    congr 1
    by_cases h : s.size ≤ 60
    · rw [decide_eq_true h]; simp; omega
    · rw [decide_eq_false h]; simp; omega

structure OkE (e : TEvent) : Prop where
  dot : D.OkD e.dot
  kind : 0 ≤ e.kind ∧ e.kind ≤ 255
  cid : 0 ≤ e.cid ∧ e.cid ≤ 18446744073709551615
  field : 0 ≤ e.field ∧ e.field ≤ 255
  text : e.text.size ≤ 1000000000
  kills : ∀ d ∈ e.kills, D.OkD d
  klen : e.kills.length ≤ 1000000000
def noText (s : ByteArray) : Bool := decide (s = ⟨#[]⟩)
def goodK (e : TEvent) : Bool := (decide (e.kind = 1) && (goodF e.field && goodT e.text)) || (decide (e.kind = 2) && (decide (e.field = 0) && noText e.text))
def goodL (e : TEvent) : Bool := decide (e.kills.length ≤ 256) && (D.riseB e.kills && e.kills.all fun d => V.goodD d && !decide (d = e.dot))
def goodE (e : TEvent) : Bool := (goodC e.cid && V.goodD e.dot) && (goodK e && goodL e)
theorem Rising_eq (l : List TDot) (hl : l.length ≤ 1000000000000) : dot_Rising l = pure (D.riseB l) := by
  unfold dot_Rising
  have key : ∀ (k i : Nat) (x : TDot) (r : List TDot), i + k = l.length → l.drop i = r → i ≠ 0 → l[i - 1]? = some x → loop (dot_Rising_l0 l) (i : Int) = pure (if D.riseB (x :: r) = true then Ex.brk () else Ex.ret false) := by
    intro k
    induction k with
    | zero =>
      intro i x r hi hr h1 hx
      have : r = [] := by rw [← hr]; exact List.drop_eq_nil_of_le (by omega)
      subst this
      exact loop_done (by
        unfold dot_Rising_l0
        have : decide ((i : Int) < (l.length : Int)) = false := by simp; omega
        simp only [this, cond_false]; rfl)
    | succ k ih =>
      intro i x r hi hr h1 hx
      have hlt : i < l.length := by omega
      have hr2 : r = l[i] :: l.drop (i + 1) := by rw [← hr]; exact List.drop_eq_getElem_cons hlt
      have hy := List.getElem?_eq_getElem hlt
      have hi1 : idx l (IntKind.i64.wrap ((i : Int) - 1)) = pure x := by
        rw [wI64 (by omega) (by omega)]
        exact idx_eq (by omega) (by rw [show ((i : Int) - 1).toNat = i - 1 by omega]; exact hx)
      have hb : dot_Rising_l0 l (i : Int) = cond (!ltDot x l[i]) (pure (.done (.ret false))) (pure (.next ((i + 1 : Nat) : Int))) := by
        unfold dot_Rising_l0
        have h2 : decide ((i : Int) < (l.length : Int)) = true := by simp; omega
        have h3 : decide ((0 : Int) < (i : Int)) = true := by simp; omega
        simp only [h2, h3, cond_true, hi1, idx_nat hy, pure_bind, D.Cmp_eq, det_pure, D.cmp_ge, wSucc (show i < 9223372036854775807 by omega)]
      rw [hr2]
      show _ = (pure (if (ltDot x l[i] && D.riseB (l[i] :: l.drop (i + 1))) = true then Ex.brk () else Ex.ret false) : M (Ex Unit Bool))
      cases c : ltDot x l[i] with
      | true =>
        rw [c] at hb
        rw [loop_next hb, Bool.true_and]
        exact ih (i + 1) l[i] _ (by omega) rfl (by omega) hy
      | false =>
        rw [c] at hb
        rw [loop_done hb]; rfl
  cases l with
  | nil =>
    rw [loop_done (r := Ex.brk ()) (by unfold dot_Rising_l0; rfl)]; rfl
  | cons x r =>
    have h0 : dot_Rising_l0 (x :: r) 0 = pure (.next 1) := by
      unfold dot_Rising_l0
      have h2 : decide ((0 : Int) < ((x :: r).length : Int)) = true := decide_eq_true (by rw [List.length_cons]; omega)
      simp only [h2, cond_true, show decide ((0 : Int) < 0) = false from rfl, cond_false, pure_bind]
      rw [wI64 (by omega) (by omega)]
      rfl
    have := key r.length 1 x r (by simp; omega) rfl (by decide) rfl
    rw [show ((1 : Nat) : Int) = 1 from rfl] at this
    rw [loop_next h0, this, pure_bind]
    cases D.riseB (x :: r) <;> rfl
theorem kills_loop (e : TEvent) (hl : e.kills.length ≤ 1000000000000) : loop (event_Good_l0 e) 0 = pure (if (e.kills.all fun d => V.goodD d && !decide (d = e.dot)) = true then Ex.brk () else Ex.ret false) := by
  have := loopAll (body := event_Good_l0 e) e.kills (fun i => (i : Int)) (fun _ d => V.goodD d && !decide (d = e.dot)) (Ex.brk ()) (Ex.ret false) (fun i x hx hi => by
    have hd : decide ((i : Int) < (e.kills.length : Int)) = true := by simpa using hi
    unfold event_Good_l0
    simp only [hd, cond_true, idx_nat hx, pure_bind, V.dot_Good_eq, det_pure, D.dotEq, wSucc (show i < 9223372036854775807 by omega)]
    cases V.goodD x <;> cases decide (x = e.dot) <;> rfl) (by
    unfold event_Good_l0
    simp)
  rw [show (0 : Int) = ((0 : Nat) : Int) from rfl, this, all_zip e.kills fun d => V.goodD d && !decide (d = e.dot)]
theorem Good_eq {e : TEvent} (h : OkE e) : event_Good e = pure (goodE e) := by
  have hk := h.klen; have ht := h.text
  unfold event_Good goodE
  rw [Unpack_eq h.cid.1 h.cid.2, det_pure, pure_bind, V.dot_Good_eq, det_pure, pure_bind, kills_loop e (by omega), Rising_eq e.kills (by omega), Field_eq, Text_eq e.text (by omega)]
  simp only []
  cases goodC e.cid with
  | false => rfl
  | true =>
    cases V.goodD e.dot with
    | false => rfl
    | true =>
      have hl : decide ((256 : Int) < (e.kills.length : Int)) = !decide (e.kills.length ≤ 256) := by
        by_cases c : e.kills.length ≤ 256
        · rw [decide_eq_true c]; simp; omega
        · rw [decide_eq_false c]; simp; omega
      have tail : (cond (decide ((256 : Int) < (e.kills.length : Int))) (pure true) ((det (pure (D.riseB e.kills))).bind fun v23 => pure (!v23))).bind (fun v21 => cond v21 (pure false) ((pure (if (e.kills.all fun d => V.goodD d && !decide (d = e.dot)) = true then Ex.brk () else Ex.ret false)).bind (exk fun _ => pure true))) = pure (goodL e) := by
        unfold goodL
        rw [hl, det_pure, pure_bind]
        cases decide (e.kills.length ≤ 256) with
        | false => rfl
        | true =>
          cases D.riseB e.kills with
          | false => rfl
          | true => cases e.kills.all fun d => V.goodD d && !decide (d = e.dot) <;> rfl
      simp only [Bool.not_true, cond_false, pure_bind, det_pure, Bool.true_and] at tail ⊢
      unfold goodK noText
      by_cases k1 : e.kind = 1
      · have k2 : decide (e.kind = 2) = false := by rw [k1]; rfl
        rw [decide_eq_true k1, cond_true, k2, Bool.true_and, Bool.false_and, Bool.or_false]
        cases goodF e.field with
        | false => rfl
        | true =>
          cases goodT e.text with
          | false => rfl
          | true => exact tail
      · rw [decide_eq_false k1, cond_false, Bool.false_and, Bool.false_or]
        by_cases k2 : e.kind = 2
        · rw [decide_eq_true k2, cond_true, Bool.true_and]
          cases decide (e.field = 0) with
          | false => rfl
          | true =>
            cases decide (e.text = (⟨#[]⟩ : ByteArray)) with
            | false => rfl
            | true => exact tail
        · rw [decide_eq_false k2]; rfl
theorem rHas_eq (l : List TDot) (d : TDot) (hl : l.length ≤ 1000000000000) : r07_Has l d = pure (l.any fun x => decide (x = d)) := by
  unfold r07_Has
  have := loopAll (body := r07_Has_l0 l d) l (fun i => (i : Int)) (fun _ x => !decide (x = d)) (Ex.brk ()) (Ex.ret true) (fun i x hx hi => by
    have hd : decide ((i : Int) < (l.length : Int)) = true := by simpa using hi
    unfold r07_Has_l0
    simp only [hd, cond_true, idx_nat hx, pure_bind, D.dotEq, wSucc (show i < 9223372036854775807 by omega)]
    cases decide (x = d) <;> rfl) (by
    unfold r07_Has_l0
    simp)
  rw [show (0 : Int) = ((0 : Nat) : Int) from rfl, this, pure_bind, all_zip l fun x => !decide (x = d)]
  have e : (l.any fun x => decide (x = d)) = !(l.all fun x => !decide (x = d)) := by simp [List.all_eq_not_any_not]
  rw [e]
  cases l.all fun x => !decide (x = d) <;> rfl
theorem rgood_loop (e : TEvent) (hl : e.kills.length ≤ 1000000000000) : loop (r13_Good_l0 e) 0 = pure (if e.kills.all V.goodD = true then Ex.brk () else Ex.ret false) := by
  have := loopAll (body := r13_Good_l0 e) e.kills (fun i => (i : Int)) (fun _ d => V.goodD d) (Ex.brk ()) (Ex.ret false) (fun i x hx hi => by
    have hd : decide ((i : Int) < (e.kills.length : Int)) = true := by simpa using hi
    unfold r13_Good_l0
    simp only [hd, cond_true, idx_nat hx, pure_bind, V.r07_Good_eq, det_pure, wSucc (show i < 9223372036854775807 by omega)]
    cases V.goodD x <;> rfl) (by
    unfold r13_Good_l0
    simp)
  rw [show (0 : Int) = ((0 : Nat) : Int) from rfl, this, all_zip e.kills V.goodD]
theorem rGood_eq {e : TEvent} (h : OkE e) : r13_Good e = pure (goodE e) := by
  have hk := h.klen; have ht := h.text
  unfold r13_Good goodE
  rw [rUnpack_eq h.cid.1 h.cid.2, det_pure, pure_bind, V.r07_Good_eq, det_pure, pure_bind, rgood_loop e (by omega), D.rRising_eq e.kills (by omega), rField_eq, rText_eq e.text (by omega), rHas_eq e.kills e.dot (by omega)]
  simp only []
  cases goodC e.cid with
  | false => rfl
  | true =>
    cases V.goodD e.dot with
    | false => rfl
    | true =>
      have hl : decide ((e.kills.length : Int) ≤ 256) = decide (e.kills.length ≤ 256) := by
        by_cases c : e.kills.length ≤ 256
        · rw [decide_eq_true c]; simp; omega
        · rw [decide_eq_false c]; simp; omega
      have hall : (e.kills.all fun d => V.goodD d && !decide (d = e.dot)) = (e.kills.all V.goodD && !(e.kills.any fun x => decide (x = e.dot))) := by
        rw [Bool.eq_iff_iff, Bool.and_eq_true, List.all_eq_true, List.all_eq_true, Bool.not_eq_true', List.any_eq_false]
        constructor
        · intro h
          exact ⟨fun x hx => by have := h x hx; rw [Bool.and_eq_true] at this; exact this.1, fun x hx => by have := h x hx; rw [Bool.and_eq_true] at this; simpa using this.2⟩
        · rintro ⟨h1, h2⟩ x hx
          rw [Bool.and_eq_true]
          exact ⟨h1 x hx, by simpa using h2 x hx⟩
      have tail : ((pure (if e.kills.all V.goodD = true then Ex.brk () else Ex.ret false) : M (Ex Unit Bool)).bind (exk fun _ => (cond (decide ((e.kills.length : Int) ≤ 256)) ((det (pure (D.riseB e.kills))).bind fun v46 => cond v46 ((det (pure (e.kills.any fun x => decide (x = e.dot)))).bind fun v49 => pure (!v49)) (pure false)) (pure false)).bind fun v44 => pure v44)) = pure (goodL e) := by
        unfold goodL
        rw [hl, hall]
        simp only [det_pure, pure_bind]
        cases e.kills.all V.goodD with
        | false => cases decide (e.kills.length ≤ 256) <;> cases D.riseB e.kills <;> rfl
        | true => cases decide (e.kills.length ≤ 256) <;> cases D.riseB e.kills <;> cases e.kills.any fun x => decide (x = e.dot) <;> rfl
      simp only [Bool.not_true, cond_false, pure_bind, det_pure, Bool.true_and] at tail ⊢
      unfold goodK noText
      by_cases k1 : e.kind = 1
      · have k2 : decide (e.kind = 2) = false := by rw [k1]; rfl
        rw [decide_eq_true k1, k2]
        simp only [Bool.not_true, cond_false, cond_true, pure_bind, Bool.true_and, Bool.false_and, Bool.or_false]
        cases goodF e.field with
        | false => rfl
        | true =>
          cases goodT e.text with
          | false => rfl
          | true => exact tail
      · rw [decide_eq_false k1]
        simp only [Bool.not_false, cond_true, pure_bind, Bool.false_and, Bool.false_or]
        by_cases k2 : e.kind = 2
        · rw [decide_eq_true k2]
          simp only [Bool.not_true, cond_false, cond_true, Bool.true_and]
          cases decide (e.field = 0) with
          | false => rfl
          | true =>
            cases decide (e.text = (⟨#[]⟩ : ByteArray)) with
            | false => rfl
            | true => exact tail
        · rw [decide_eq_false k2]; rfl


theorem rSame_eq (a b : TEvent) (h : a.kills.length ≤ 1000000000000) : r13_Same a b = pure (decide (a = b)) := by
  unfold r13_Same
  rw [D.dotEq, V.r07_Same_eq a.kills b.kills h, det_pure, pure_bind]
  have e : decide (a = b) = (decide (a.dot = b.dot) && (decide (a.kind = b.kind) && (decide (a.cid = b.cid) && (decide (a.field = b.field) && (decide (a.text = b.text) && decide (a.kills = b.kills)))))) := by
    cases a; cases b; simp only [TEvent.mk.injEq, Bool.decide_and]
  rw [e]
  cases decide (a.dot = b.dot) <;> cases decide (a.kind = b.kind) <;> cases decide (a.cid = b.cid) <;> cases decide (a.field = b.field) <;> cases decide (a.text = b.text) <;> rfl
theorem rAll_eq (a b : List TEvent) (ha : a.length ≤ 1000000000000) (hk : ∀ e ∈ a, e.kills.length ≤ 1000000000000) : r13_All a b = pure (decide (a = b)) := by
  unfold r13_All
  by_cases hlen : a.length = b.length
  · have h1 : decide ((a.length : Int) = (b.length : Int)) = true := by simp [hlen]
    rw [h1, Bool.not_true, cond_false]
    have := loopAll (body := r13_All_l0 a b) a (fun i => (i : Int)) (fun i x => decide (b[i]? = some x)) (Ex.brk ()) (Ex.ret false) (fun i x hx hi => by
      have hd : decide ((i : Int) < (a.length : Int)) = true := by simpa using hi
      obtain ⟨y, hy⟩ : ∃ y, b[i]? = some y := ⟨_, List.getElem?_eq_getElem (by omega)⟩
      unfold r13_All_l0
      simp only [hd, cond_true, idx_nat hx, idx_nat hy, pure_bind, rSame_eq x y (hk x (List.mem_of_getElem? hx)), det_pure, wSucc (show i < 9223372036854775807 by omega), hy]
      by_cases c : x = y
      · subst c; simp
      · have : ¬ some y = some x := fun e => c (Option.some.inj e).symm
        simp [c, this]) (by
      unfold r13_All_l0
      simp)
    rw [show (0 : Int) = ((0 : Nat) : Int) from rfl, this, pure_bind]
    have e : (a.zipIdx.all fun y => decide (b[y.2]? = some y.1)) = decide (a = b) := by
      rw [Bool.eq_iff_iff, List.all_eq_true, decide_eq_true_eq]
      constructor
      · intro h
        apply List.ext_getElem?
        intro i
        by_cases hi : i < a.length
        · have := h (a[i], i) (by rw [List.mk_mem_zipIdx_iff_getElem?]; exact List.getElem?_eq_getElem hi)
          simp only [decide_eq_true_eq] at this
          rw [this, List.getElem?_eq_getElem hi]
        · rw [List.getElem?_eq_none (by omega), List.getElem?_eq_none (by omega)]
      · intro h y hy
        subst h
        rw [List.mem_zipIdx_iff_getElem?] at hy
        simpa using hy
    rw [e]
    cases decide (a = b) <;> rfl
  · have h1 : decide ((a.length : Int) = (b.length : Int)) = false := by simp; omega
    have h2 : decide (a = b) = false := decide_eq_false fun e => hlen (by rw [e])
    rw [h1, Bool.not_false, cond_true, h2]

def encT (s : ByteArray) : List Int := N.encI s.size ++ bytesL s
def encE (e : TEvent) : List Int := D.encD e.dot ++ ([e.kind] ++ (N.encI e.cid ++ ([e.field] ++ (encT e.text ++ D.encDs e.kills))))
theorem encT_len {s : ByteArray} (h : s.size ≤ 1000000000) : (encT s).length ≤ 9 + s.size := by
  have := N.encI_len (v := (s.size : Int)) (by omega)
  rw [encT, List.length_append, bytes_len]; omega
theorem encE_len {e : TEvent} (h : OkE e) : (encE e).length ≤ 47 + e.text.size + 18 * e.kills.length := by
  have h1 := D.encD_len h.dot
  have h2 := N.encI_len h.cid.2
  have h3 := encT_len h.text
  have h4 := D.encDs_len h.kills (by have := h.klen; omega)
  simp only [encE, List.length_append, List.length_singleton]; omega
theorem PutText_eq {s : ByteArray} (h : s.size ≤ 1000000000) (row : List Int) (hr : row.length ≤ 1000000000000) : pack_Writer_Text_o s row = pure (row ++ encT s) := by
  have := N.encI_len (v := (s.size : Int)) (by omega)
  unfold pack_Writer_Text_o
  rw [wU64 (by omega) (by omega), N.WNum_eq row (by omega) (by omega) (by omega), det_pure, pure_bind, need_true (by omega), N.put_eq _ _ (by rw [List.length_append, bytes_len]; omega), det_pure, pure_bind, encT, List.append_assoc]
theorem rPutText_eq {s : ByteArray} (h : s.size ≤ 1000000000) (row : List Int) (hr : row.length ≤ 1000000000000) : r04_Text row s = pure (row ++ encT s) := by
  have h9 := N.encI_len (v := (s.size : Int)) (by omega)
  unfold r04_Text
  rw [wU64 (by omega) (by omega), N.rAppend_eq row (by omega) (by omega) (by omega), det_pure, pure_bind]
  have := D.loopApp (body := r04_Text_l0 s) (bytesL s) (fun x => [x]) (row ++ N.encI (s.size : Int)) 2000000000000 (fun i out => ((i : Int), out)) (fun t => pure t) (by
    have := D.flat_len (bytesL s) (fun x => [x]) 1 (by simp)
    rw [bytes_len] at this
    rw [List.length_append]; omega) (fun i x out hx hi ho => by
    have hi2 : i < s.size := by rw [← bytes_len]; exact hi
    have hd : decide ((i : Int) < (s.size : Int)) = true := by simpa using hi2
    unfold r04_Text_l0
    simp only [hd, cond_true, idx_nat hx, pure_bind]
    rw [need_true (by simp at ho ⊢; omega), wSucc (show i < 9223372036854775807 by omega)]) (fun out => by
    unfold r04_Text_l0
    simp [bytes_len, pure_bind])
  rw [show (0 : Int) = ((0 : Nat) : Int) from rfl, this, pure_bind, encT, List.append_assoc]
  have e : ∀ l : List Int, (l.flatMap fun x => [x]) = l := by
    intro l
    induction l with
    | nil => rfl
    | cons x r ih => rw [List.flatMap_cons, ih]; rfl
  rw [e]
theorem Put_eq {e : TEvent} (h : OkE e) (row : List Int) (hr : row.length ≤ 10000000000) : ecode_Put_o e row = pure (row ++ encE e) := by
  have h1 := D.encD_len h.dot
  have h2 := N.encI_len h.cid.2
  have h3 := encT_len h.text
  have ht := h.text; have hk := h.klen
  unfold ecode_Put_o
  rw [D.PutDot_eq h.dot row (by omega), det_pure, pure_bind, N.WByte_eq _ _ (by rw [List.length_append]; omega), det_pure, pure_bind, N.WNum_eq _ h.cid.1 h.cid.2 (by simp only [List.length_append, List.length_singleton]; omega), det_pure, pure_bind,
    N.WByte_eq _ _ (by simp only [List.length_append, List.length_singleton]; omega), det_pure, pure_bind, PutText_eq h.text _ (by simp only [List.length_append, List.length_singleton]; omega), det_pure, pure_bind,
    D.PutDots_eq h.kills (by omega) _ (by simp only [List.length_append, List.length_singleton]; omega), det_pure, pure_bind]
  simp only [encE, List.append_assoc]
theorem rPut_eq {e : TEvent} (h : OkE e) (row : List Int) (hr : row.length ≤ 10000000000) : r16_Put row e = pure (row ++ encE e) := by
  have h1 := D.encD_len h.dot
  have h2 := N.encI_len h.cid.2
  have h3 := encT_len h.text
  have ht := h.text; have hk := h.klen
  unfold r16_Put
  rw [D.rPutDot_eq h.dot row (by omega), det_pure, pure_bind, need_true (by simp only [List.length_append, List.length_singleton]; omega), N.rAppend_eq _ h.cid.1 h.cid.2 (by simp only [List.length_append, List.length_singleton]; omega), det_pure, pure_bind,
    need_true (by simp only [List.length_append, List.length_singleton]; omega), rPutText_eq h.text _ (by simp only [List.length_append, List.length_singleton]; omega), det_pure, pure_bind,
    D.rPutDots_eq h.kills (by omega) _ (by simp only [List.length_append, List.length_singleton]; omega), det_pure, pure_bind]
  simp only [encE, List.append_assoc]
def encEs (l : List TEvent) : List Int := N.encI l.length ++ l.flatMap encE
theorem Encode_eq {e : TEvent} (h : OkE e) : ecode_Encode e = pure (if goodE e = true then (encE e, 0) else ([], 1)) := by
  have hl := encE_len h
  have ht := h.text; have hk := h.klen
  unfold ecode_Encode
  rw [Good_eq h, det_pure, pure_bind]
  cases goodE e with
  | false => rfl
  | true => rw [Bool.not_true, cond_false, Put_eq h [] (by simp), det_pure, pure_bind, List.nil_append, N.Bytes_eq _ (by omega), det_pure, pure_bind]; rfl
theorem equal_eq {a b : List Int} : l16_equal a b = pure (decide (strL a = strL b)) := rfl
def exE : TEvent := ⟨⟨1, 2⟩, 2, 281474976710657, 0, ⟨#[]⟩, [⟨1, 1⟩]⟩
theorem ex_ok : OkE exE := ⟨⟨by decide, by decide, by decide, by decide⟩, by decide, by decide, by decide, by decide, fun d hd => by
  rw [show exE.kills = [⟨1, 1⟩] from rfl] at hd
  rw [List.mem_singleton.1 hd]; exact ⟨by decide, by decide, by decide, by decide⟩, by decide⟩
theorem ex_good : goodE exE = true := by decide
theorem len_of {n k : Nat} (h1 : 256 ^ k ≤ n) (h2 : n < 256 ^ (k + 1)) : N.lenN n = k + 1 := by
  have := N.lenN_ge k n h1
  have := N.lenN_le (k + 1) n h2
  omega
theorem works_eq : l16_works = pure true := by
  unfold l16_works
  have e : encE exE = [1, 1, 1, 2, 2, 7, 1, 0, 0, 0, 0, 0, 1, 0, 0, 1, 1, 1, 1, 1, 1] := by
    have l1 : N.lenN 1 = 1 := len_of (k := 0) (by decide) (by decide)
    have l2 : N.lenN 2 = 1 := len_of (k := 0) (by decide) (by decide)
    have l7 : N.lenN 281474976710657 = 7 := len_of (k := 6) (by decide) (by decide)
    have e1 : N.encI 1 = [1, 1] := by show (N.lenN 1 : Int) :: N.be 1 (N.lenN 1) = _; rw [l1]; rfl
    have e2 : N.encI 2 = [1, 2] := by show (N.lenN 2 : Int) :: N.be 2 (N.lenN 2) = _; rw [l2]; rfl
    have e7 : N.encI 281474976710657 = [7, 1, 0, 0, 0, 0, 0, 1] := by show (N.lenN 281474976710657 : Int) :: N.be 281474976710657 (N.lenN 281474976710657) = _; rw [l7]; rfl
    have e0 : N.encI 0 = [0] := by show (N.lenN 0 : Int) :: N.be 0 (N.lenN 0) = _; rw [N.lenN_zero]; rfl
    have eK : D.sortD (D.goods [⟨1, 1⟩]) = [⟨1, 1⟩] := by decide
    have eT : encT ⟨#[]⟩ = [0] := by rw [encT]; show N.encI 0 ++ [] = _; rw [e0]; rfl
    have eD : D.encDs [⟨1, 1⟩] = [1, 1, 1, 1, 1, 1] := by
      rw [D.encDs, eK]
      show N.encI 1 ++ ((N.encI 1 ++ N.encI 1) ++ []) = _
      rw [e1]; rfl
    show (N.encI 1 ++ N.encI 2) ++ ([2] ++ (N.encI 281474976710657 ++ ([0] ++ (encT ⟨#[]⟩ ++ D.encDs [⟨1, 1⟩])))) = _
    rw [e1, e2, e7, eT, eD]; rfl
  have h := Encode_eq ex_ok
  rw [ex_good, if_pos rfl, e] at h
  have h' : ecode_Encode ⟨⟨1, 2⟩, 2, 281474976710657, 0, ⟨#[]⟩, [⟨1, 1⟩]⟩ = pure ([1, 1, 1, 2, 2, 7, 1, 0, 0, 0, 0, 0, 1, 0, 0, 1, 1, 1, 1, 1, 1], 0) := h
  rw [h', det_pure, pure_bind]
  simp only [decide_true, cond_true, equal_eq, det_pure, pure_bind]
open N (RS Ok numS uptoS byteS textS failS endS OkB Sim)
open D (bad4 fin)

def s1 (s : RS) : RS := (D.dotS s).2
def s2 (s : RS) : RS := (byteS (s1 s)).2
def s3 (s : RS) : RS := (numS (s2 s)).2
def s4 (s : RS) : RS := (byteS (s3 s)).2
def s5 (s : RS) : RS := (textS 60 (s4 s)).2
def s6 (s : RS) : RS := (D.dotsS 256 (s5 s)).2
def getE (s : RS) : TEvent := ⟨(D.dotS s).1, (byteS (s1 s)).1, (numS (s2 s)).1, (byteS (s3 s)).1, (textS 60 (s4 s)).1, (D.dotsS 256 (s5 s)).1⟩
def noE : TEvent := ⟨⟨0, 0⟩, 0, 0, 0, ⟨#[]⟩, []⟩
def getT (s : RS) : RS := bad4 (!goodE (getE s)) (s6 s)
def getS (s : RS) : TEvent × RS := fin noE (getE s) (getT s)
theorem text_size {s : RS} (h : Ok s) (m : Int) : (textS m s).1.size ≤ 1000000000 := by
  have h1 := (N.ok_num h).1.len
  unfold textS
  split
  · exact (by decide : (0 : Nat) ≤ 1000000000)
  · split
    · exact (by decide : (0 : Nat) ≤ 1000000000)
    · split
      · exact (by decide : (0 : Nat) ≤ 1000000000)
      · rw [strL_size, List.length_take]; omega
theorem dots_okD {s : RS} (h : Ok s) (most : Int) : (∀ d ∈ (D.dotsS most s).1, D.OkD d) ∧ (D.dotsS most s).1.length ≤ 1000000000 := by
  by_cases c : (D.dotsS most s).2.2 = 0
  · obtain ⟨e1, e2, e3, e4⟩ := D.dots_inv h c
    have hl := congrArg List.length e1
    have hs := h.len
    have h9 : (D.sortD (D.goods (D.dotsS most s).1)) = (D.dotsS most s).1 := D.good_self e2 fun d hd => (e3 d hd).1
    have h8 : ∀ l : List TDot, l.length ≤ (l.flatMap D.encD).length := by
      intro l
      induction l with
      | nil => simp
      | cons x t ih =>
        have : 1 ≤ (D.encD x).length := by rw [D.encD, List.length_append, N.encI, N.encN, List.length_cons]; omega
        rw [List.flatMap_cons, List.length_append, List.length_cons]; omega
    have h7 := h8 (D.dotsS most s).1
    refine ⟨fun d hd => (e3 d hd).2, ?_⟩
    rw [List.length_append, D.encDs, h9, List.length_append] at hl
    omega
  · rw [D.dots_bad c]; simp
theorem ok_get {s : RS} (h : Ok s) : Ok (s1 s) ∧ Ok (s2 s) ∧ Ok (s3 s) ∧ Ok (s4 s) ∧ Ok (s5 s) ∧ Ok (s6 s) ∧ OkE (getE s) := by
  have o1 : Ok (s1 s) := (D.ok_dot h).1
  have o2 := N.ok_byte o1
  have o3 := N.ok_num (s := s2 s) o2.1
  have o4 := N.ok_byte (s := s3 s) o3.1
  have o5 := N.ok_text (s := s4 s) o4.1 60
  have o6 := D.ok_dots (s := s5 s) o5 256
  obtain ⟨k1, k2⟩ := dots_okD (s := s5 s) o5 256
  exact ⟨o1, o2.1, o3.1, o4.1, o5, o6, (D.ok_dot h).2.1, o2.2, o3.2, o4.2, text_size (s := s4 s) o4.1 60, k1, k2⟩
theorem Get_eq {s : RS} (h : Ok s) : ecode_Get_o s.1 s.2 = pure (getS s) := by
  obtain ⟨o1, o2, o3, o4, o5, o6, oe⟩ := ok_get h
  unfold ecode_Get_o getS
  have e1 : dcode_Dot_o s.1 s.2 = pure ((D.dotS s).1, s1 s) := D.Dot_eq h
  have e2 : pack_Reader_Byte_o (s1 s).1 (s1 s).2 = pure ((byteS (s1 s)).1, s2 s) := N.Byte_eqS o1
  have e3 : pack_Reader_Num_o (s2 s).1 (s2 s).2 = pure ((numS (s2 s)).1, s3 s) := N.Num_eq o2
  have e4 : pack_Reader_Byte_o (s3 s).1 (s3 s).2 = pure ((byteS (s3 s)).1, s4 s) := N.Byte_eqS o3
  have e5 : pack_Reader_Text_o 60 (s4 s).1 (s4 s).2 = pure ((textS 60 (s4 s)).1, s5 s) := N.Text_eq o4 (by decide)
  have e6 : dcode_Dots_o 256 (s5 s).1 (s5 s).2 = pure ((D.dotsS 256 (s5 s)).1, s6 s) := D.Dots_eq o5 (by decide)
  rw [e1, det_pure, pure_bind]
  simp only []
  rw [e2, det_pure, pure_bind]
  simp only []
  rw [e3, det_pure, pure_bind]
  simp only []
  rw [e4, det_pure, pure_bind]
  simp only []
  rw [e5, det_pure, pure_bind]
  simp only []
  rw [e6, det_pure, pure_bind]
  simp only []
  have eg := Good_eq oe
  unfold getE at eg
  rw [eg, det_pure, pure_bind]
  have ep := D.pbad_neg (goodE (getE s)) (s6 s)
  unfold getE at ep
  rw [ep, pure_bind]
  exact D.pfin_eq _ _ _
variable {B : List Int} {a : Int} {s : RS}
theorem rGet_eq (hB : OkB B) (hO : Ok s) (h : Sim B a s) : ∃ a', r16_Get_o B a s.2 = pure ((getS s).1, B, a', (getS s).2.2) ∧ Sim B a' (getS s).2 := by
  obtain ⟨o1, o2, o3, o4, o5, o6, oe⟩ := ok_get hO
  obtain ⟨a1, e1, t1⟩ := D.rDot_eq hB hO h
  obtain ⟨a2, e2, t2⟩ := N.rByteS_eq hB (s := s1 s) t1
  obtain ⟨a3, e3, t3⟩ := N.rNum_eq hB (s := s2 s) t2
  obtain ⟨a4, e4, t4⟩ := N.rByteS_eq hB (s := s3 s) t3
  obtain ⟨a5, e5, t5⟩ := N.rTextS_eq hB o4 t4 (q := 60) (by decide)
  obtain ⟨a6, e6, t6⟩ := D.rDots_eq hB o5 t5 (most := 256) (by decide)
  unfold r16_Get_o getS
  have e1' : r15_Dot_o B a s.2 = pure ((D.dotS s).1, B, a1, (s1 s).2) := e1
  have e2' : epitaphref04_Reader_Byte_o B a1 (s1 s).2 = pure ((byteS (s1 s)).1, B, a2, (s2 s).2) := e2
  have e3' : epitaphref04_Reader_Num_o B a2 (s2 s).2 = pure ((numS (s2 s)).1, B, a3, (s3 s).2) := e3
  have e4' : epitaphref04_Reader_Byte_o B a3 (s3 s).2 = pure ((byteS (s3 s)).1, B, a4, (s4 s).2) := e4
  have e5' : epitaphref04_Reader_Text_o 60 B a4 (s4 s).2 = pure ((textS 60 (s4 s)).1, B, a5, (s5 s).2) := e5
  have e6' : r15_Dots_o 256 B a5 (s5 s).2 = pure ((D.dotsS 256 (s5 s)).1, B, a6, (s6 s).2) := e6
  rw [e1', det_pure, pure_bind]
  simp only []
  rw [e2', det_pure, pure_bind]
  simp only []
  rw [e3', det_pure, pure_bind]
  simp only []
  rw [e4', det_pure, pure_bind]
  simp only []
  rw [e5', det_pure, pure_bind]
  simp only []
  rw [e6', det_pure, pure_bind]
  simp only []
  have q1 := D.rand_eq (s6 s).2 ((det (r13_Good (getE s))).bind fun v18 => pure (!v18)) (!goodE (getE s)) (by rw [rGood_eq oe, det_pure, pure_bind])
  have q2 := D.rbad_eq B a6 (decide ((s6 s).2 = 0) && !goodE (getE s)) (s6 s)
  rw [D.bad4_and] at q2
  unfold getE at q1 q2
  rw [q1, pure_bind, q2, pure_bind, D.fin_st]
  refine ⟨a6, ?_, D.sim_bad4 t6 _⟩
  show (cond (!decide ((getT s).2 = 0)) (pure (noE, B, a6, (getT s).2)) (pure (getE s, B, a6, (getT s).2)) : M _) = _
  by_cases c : (getT s).2 = 0
  · rw [D.fin_ok c, decide_eq_true c]; rfl
  · rw [D.fin_bad c, decide_eq_false c]; rfl

theorem byte_ok {s : RS} (h : (byteS s).2.2 = 0) : s.2 = 0 ∧ s.1 = (byteS s).1 :: (byteS s).2.1 := by
  unfold byteS at h ⊢
  by_cases c : s.2 ≠ 0
  · rw [if_pos c] at h; exact absurd h c
  · rw [if_neg c] at h ⊢
    cases hs : s.1 with
    | nil => rw [hs] at h; exact absurd h (N.fail_bad (by decide))
    | cons x r => exact ⟨Classical.byContradiction c, rfl⟩
theorem text_ok {m : Int} {s : RS} (hO : Ok s) (h : (textS m s).2.2 = 0) : (numS s).2.2 = 0 ∧ s.1 = encT (textS m s).1 ++ (textS m s).2.1 ∧ ((textS m s).1.size : Int) ≤ max m 0 := by
  obtain ⟨k1, k2, k3⟩ := N.ok_num hO
  unfold textS at h ⊢
  by_cases c : (numS s).2.2 ≠ 0
  · rw [if_pos c] at h; exact absurd h c
  · rw [if_neg c] at h ⊢
    by_cases c2 : max m 0 < (numS s).1
    · rw [if_pos c2] at h; exact absurd h (N.fail_bad (by decide))
    · rw [if_neg c2] at h ⊢
      by_cases c3 : ((numS s).2.1.length : Int) < (numS s).1
      · rw [if_pos c3] at h; exact absurd h (N.fail_bad (by decide))
      · rw [if_neg c3]
        have hz : (numS s).2.2 = 0 := Classical.byContradiction c
        refine ⟨hz, ?_, ?_⟩
        · show s.1 = (N.encI ((strL _).size : Int) ++ bytesL (strL _)) ++ _
          rw [strL_size, bytes_strL (k1.by_.take _), List.length_take, show ((min (numS s).1.toNat (numS s).2.1.length : Nat) : Int) = (numS s).1 by omega, List.append_assoc, List.take_append_drop]
          exact D.num_inv hO hz
        · show ((strL _).size : Int) ≤ _
          rw [strL_size, List.length_take]; omega
theorem get_inv {s : RS} (hO : Ok s) (h : (getS s).2.2 = 0) : s.2 = 0 ∧ goodE (getS s).1 = true ∧ OkE (getS s).1 ∧ s.1 = encE (getS s).1 ++ (getS s).2.1 := by
  obtain ⟨o1, o2, o3, o4, o5, o6, oe⟩ := ok_get hO
  unfold getS at h ⊢
  rw [D.fin_st] at h
  rw [D.fin_ok h]
  obtain ⟨g1, g2, g3⟩ := D.bad4_ok (c := !goodE (getE s)) (s := s6 s) h
  have i6 := D.dots_inv o5 g2
  have z5 : (s5 s).2 = 0 := Classical.byContradiction fun c => by
    have : (D.dotsS 256 (s5 s)).2.2 ≠ 0 := by
      have hn := N.num_of c
      unfold D.dotsS
      rw [hn]
      rw [if_neg (by show ¬ max 256 0 < (0 : Int); omega)]
      exact c
    exact this g2
  obtain ⟨z5', i5, _⟩ := text_ok (m := 60) o4 z5
  have z4 := D.num_ok z5'
  obtain ⟨z3, i4⟩ := byte_ok (s := s3 s) z4
  have i3 := D.num_inv o2 z3
  have z2 := D.num_ok z3
  obtain ⟨z1, i2⟩ := byte_ok (s := s1 s) z2
  have i1 := D.dot_inv hO z1
  have z0 : s.2 = 0 := D.num_ok (D.upto_ok (D.dot_ok z1).2.1).1
  refine ⟨z0, by simpa using g1, oe, ?_⟩
  show s.1 = encE (getE s) ++ (getT s).1
  rw [show getT s = s6 s from g3]
  show s.1 = (D.encD (D.dotS s).1 ++ ([(byteS (s1 s)).1] ++ (N.encI (numS (s2 s)).1 ++ ([(byteS (s3 s)).1] ++ (encT (textS 60 (s4 s)).1 ++ D.encDs (D.dotsS 256 (s5 s)).1))))) ++ (s6 s).1
  simp only [List.append_assoc]
  have j6 : (s5 s).1 = D.encDs (D.dotsS 256 (s5 s)).1 ++ (s6 s).1 := i6.1
  have j5 : (s4 s).1 = encT (textS 60 (s4 s)).1 ++ (s5 s).1 := i5
  have j4 : (s3 s).1 = [(byteS (s3 s)).1] ++ (s4 s).1 := i4
  have j3 : (s2 s).1 = N.encI (numS (s2 s)).1 ++ (s3 s).1 := i3
  have j2 : (s1 s).1 = [(byteS (s1 s)).1] ++ (s2 s).1 := i2
  have j1 : s.1 = D.encD (D.dotS s).1 ++ (s1 s).1 := i1
  rw [← j6, ← j5, ← j4, ← j3, ← j2]
  exact j1
theorem get_lt {s : RS} (hO : Ok s) (h : (getS s).2.2 = 0) : (getS s).2.1.length + 1 ≤ s.1.length := by
  have := (get_inv hO h).2.2.2
  have hl := congrArg List.length this
  have : 1 ≤ (encE (getS s).1).length := by simp only [encE, List.length_append, List.length_singleton]; omega
  rw [List.length_append] at hl; omega

open N (RS Ok numS uptoS byteS textS failS endS OkB Sim)
open D (bad4 fin)

def lastGeE (out : List TEvent) (x : TEvent) : Bool := match out.getLast? with | some y => decide (0 ≤ V.cmpD y.dot x.dot) | none => false
def allT (out : List TEvent) (s : RS) : RS := bad4 (lastGeE out (getS s).1) (getS s).2
def allL : Nat → List TEvent → RS → List TEvent × RS
  | 0, out, s => (out, s)
  | k + 1, out, s => if (allT out s).2 ≠ 0 then ([], allT out s) else allL k (out ++ [(getS s).1]) (allT out s)
def allS (most : Int) (s : RS) : List TEvent × RS := if max most 0 < (numS s).1 then ([], failS 3 (numS s).2) else allL (numS s).1.toNat [] (numS s).2
theorem allL_bad {k : Nat} {out : List TEvent} {s : RS} (h : (allT out s).2 ≠ 0) : allL (k + 1) out s = ([], allT out s) := if_pos h
theorem allL_next {k : Nat} {out : List TEvent} {s : RS} (h : (allT out s).2 = 0) : allL (k + 1) out s = allL k (out ++ [(getS s).1]) (allT out s) := if_neg (by simp [h])
theorem allT_ok {out : List TEvent} {s : RS} (h : (allT out s).2 = 0) : lastGeE out (getS s).1 = false ∧ (getS s).2.2 = 0 ∧ allT out s = (getS s).2 := D.bad4_ok h
theorem ok_gets {s : RS} (h : Ok s) : Ok (getS s).2 := by
  unfold getS; rw [D.fin_st]; exact D.ok_bad4 (ok_get h).2.2.2.2.2.1 _
theorem ok_allT {s : RS} (h : Ok s) (out : List TEvent) : Ok (allT out s) := D.ok_bad4 (ok_gets h) _
theorem ok_allL : ∀ (k : Nat) (out : List TEvent) (s : RS), Ok s → Ok (allL k out s).2
  | 0, _, _, h => h
  | k + 1, out, s, h => by
    by_cases c : (allT out s).2 = 0
    · rw [allL_next c]; exact ok_allL k _ _ (ok_allT h out)
    · rw [allL_bad c]; exact ok_allT h out
theorem ok_all {s : RS} (h : Ok s) (most : Int) : Ok (allS most s).2 := by
  have h1 := N.ok_num h
  unfold allS
  split
  · exact N.ok_fail h1.1 _
  · exact ok_allL _ _ _ h1.1
theorem last_idxE {out : List TEvent} (h : out.length ≤ 1000000000000) (x : TEvent) (cmp : TDot → TDot → M Int) (hc : ∀ y, cmp y x.dot = pure (V.cmpD y x.dot)) :
    ((cond (decide (0 ≤ IntKind.i64.wrap ((out.length : Int) - 1))) ((idx out (IntKind.i64.wrap ((out.length : Int) - 1))).bind fun x61 => (det (cmp x61.dot x.dot)).bind fun v63 => pure (decide (0 ≤ v63))) (pure false)) : M Bool) = pure (lastGeE out x) := by
  unfold lastGeE
  rcases R.snoc_cases out with rfl | ⟨r, y, rfl⟩
  · rfl
  · have hl : ((r ++ [y]).length : Int) - 1 = (r.length : Int) := by simp
    rw [hl, wI64 (by omega) (by simp at h; omega)]
    have : decide ((0 : Int) ≤ (r.length : Int)) = true := by simp
    rw [this, cond_true, idx_nat (y := y) (by simp), pure_bind, hc, det_pure, pure_bind]
    simp
theorem all_loop {y4 : Int × List Int × Int} (hn : 0 ≤ y4.1 ∧ y4.1 ≤ 18446744073709551615) : ∀ (k i : Nat) (out : List TEvent) (s : RS), (i : Int) + k = y4.1 → Ok s → s.2 = 0 → out.length + s.1.length ≤ 1000000000 →
    (loop (ecode_GetAll_o_l0 y4) ((i : Int), out, s.1, s.2)).bind (exk fun ⟨out9, v10, v11⟩ => pure (out9, v10, v11)) = pure (allL k out s)
  | 0, i, out, s, hi, _, _, _ => by
    rw [loop_done (r := .brk (out, s.1, s.2)) (by
      unfold ecode_GetAll_o_l0
      have : decide ((i : Int) < y4.1) = false := by simp; omega
      simp only [this, cond_false])]
    rfl
  | k + 1, i, out, s, hi, hO, h0, hl => by
    have hc : decide ((i : Int) < y4.1) = true := by simp; omega
    have hlast := last_idxE (out := out) (by omega) (getS s).1 dot_Cmp (fun y => D.Cmp_eq y _)
    have hw : IntKind.u64.wrap ((i : Int) + 1) = ((i + 1 : Nat) : Int) := by rw [wU64 (by omega) (by omega)]; omega
    have hb : ecode_GetAll_o_l0 y4 ((i : Int), out, s.1, s.2) = (det (pack_Reader_Err_o (allT out s).1 (allT out s).2)).bind fun y70 => cond (!decide (y70.1 = 0)) (pure (.done (.ret ([], y70.2.1, y70.2.2)))) (need ((out.length + [(getS s).1].length) * 80 ≤ 140737488355328) (pure (.next (IntKind.u64.wrap ((i : Int) + 1), out ++ [(getS s).1], y70.2.1, y70.2.2)))) := by
      unfold ecode_GetAll_o_l0
      have e := D.pbad_eq (lastGeE out (getS s).1) (getS s).2
      simp only [hc, cond_true, Get_eq hO, det_pure, pure_bind]
      rw [hlast, pure_bind, e, pure_bind]
      rfl
    rw [N.Err_eq, det_pure, pure_bind] at hb
    by_cases c : (allT out s).2 = 0
    · obtain ⟨_, c2, c3⟩ := allT_ok c
      have hlt := get_lt hO c2
      rw [decide_eq_true c, Bool.not_true, cond_false, need_true (by simp; omega), hw] at hb
      rw [loop_next hb, allL_next c]
      exact all_loop hn k (i + 1) _ (allT out s) (by omega) (ok_allT hO out) c (by rw [c3]; simp; omega)
    · rw [decide_eq_false c, Bool.not_false, cond_true] at hb
      rw [loop_done hb, allL_bad c]
      rfl
theorem GetAll_eq {s : RS} (hO : Ok s) {most : Int} (hm : most ≤ 9223372036854775807) : ecode_GetAll_o most s.1 s.2 = pure (allS most s) := by
  obtain ⟨h1, h2, h3⟩ := N.ok_num hO
  unfold ecode_GetAll_o allS
  rw [N.Num_eq hO, det_pure, pure_bind, wU64 (n := max most 0) (by omega) (by omega)]
  by_cases c : max most 0 < (numS s).1
  · rw [decide_eq_true c, cond_true, if_pos c, N.Fail_eq 3 (numS s).2, det_pure, pure_bind]
  · rw [decide_eq_false c, cond_false, if_neg c]
    by_cases c2 : (numS s).2.2 = 0
    · exact all_loop (y4 := numS s) ⟨h2, h3⟩ (numS s).1.toNat 0 [] (numS s).2 (by omega) h1 c2 (by simp; have := h1.len; omega)
    · have hz := D.num_zero c2
      rw [hz, loop_done (r := .brk ([], (numS s).2.1, (numS s).2.2)) (by
        unfold ecode_GetAll_o_l0
        simp only [hz, show decide ((0 : Int) < 0) = false from rfl, cond_false])]
      rfl
variable {B : List Int} {a : Int} {s : RS}
theorem rall_loop (hB : OkB B) {y7 : Int × List Int × Int × Int} (hn : 0 ≤ y7.1 ∧ y7.1 ≤ 18446744073709551615) : ∀ (k i : Nat) (out : List TEvent) (s : RS) (a : Int), (i : Int) + k = y7.1 → Ok s → s.2 = 0 → Sim B a s → out.length + s.1.length ≤ 1000000000 →
    ∃ out' a', loop (r16_GetAll_o_l0 y7) ((i : Int), out, B, a, s.2) = pure (out', B, a', (allL k out s).2.2) ∧ Sim B a' (allL k out s).2 ∧ ((allL k out s).2.2 = 0 → out' = (allL k out s).1) ∧ ((allL k out s).2.2 ≠ 0 → (allL k out s).1 = [])
  | 0, i, out, s, a, hi, _, h0, hS, _ => by
    refine ⟨out, a, loop_done ?_, hS, fun _ => rfl, fun h => absurd h0 h⟩
    unfold r16_GetAll_o_l0
    have : decide ((i : Int) < y7.1) = false := by simp; omega
    simp only [this, cond_false, pure_bind]
    rfl
  | k + 1, i, out, s, a, hi, hO, h0, hS, hl => by
    have hc : decide ((i : Int) < y7.1) = true := by simp; omega
    obtain ⟨a1, e1, s1⟩ := rGet_eq hB hO hS
    have hlast := last_idxE (out := out) (by omega) (getS s).1 r07_Cmp (fun y => V.r07_Cmp_eq y _)
    have hw : IntKind.u64.wrap ((i : Int) + 1) = ((i + 1 : Nat) : Int) := by rw [wU64 (by omega) (by omega)]; omega
    have hb : r16_GetAll_o_l0 y7 ((i : Int), out, B, a, s.2) = pure (.next (((i + 1 : Nat) : Int), out ++ [(getS s).1], B, a1, (allT out s).2)) := by
      unfold r16_GetAll_o_l0
      have e3 := D.rand_eq (getS s).2.2 _ _ hlast
      have e4 := D.rbad_eq B a1 (decide ((getS s).2.2 = 0) && lastGeE out (getS s).1) (getS s).2
      rw [D.bad4_and] at e4
      simp only [hc, cond_true, decide_eq_true h0, pure_bind, e1, det_pure]
      rw [e3, pure_bind, e4, pure_bind]
      simp only []
      rw [need_true (by simp; omega), hw]
      rfl
    have hs2 : Sim B a1 (allT out s) := D.sim_bad4 s1 _
    rw [loop_next hb]
    by_cases c : (allT out s).2 = 0
    · obtain ⟨_, c2, c3⟩ := allT_ok c
      have hlt := get_lt hO c2
      rw [allL_next c]
      exact rall_loop hB hn k (i + 1) _ (allT out s) a1 (by omega) (ok_allT hO out) c hs2 (by rw [c3]; simp; omega)
    · rw [allL_bad c]
      refine ⟨out ++ [(getS s).1], a1, loop_done ?_, hs2, fun h => absurd h c, fun _ => rfl⟩
      unfold r16_GetAll_o_l0
      have hq : (cond (decide (((i + 1 : Nat) : Int) < y7.1)) (pure (decide ((allT out s).2 = 0))) (pure false) : M Bool) = pure false := by
        rw [decide_eq_false c]; cases decide (((i + 1 : Nat) : Int) < y7.1) <;> rfl
      simp only []
      rw [hq, pure_bind]
      rfl
theorem rGetAll_eq (hB : OkB B) (hO : Ok s) (h : Sim B a s) {most : Int} (hm : most ≤ 9223372036854775807) : ∃ a', r16_GetAll_o most B a s.2 = pure ((allS most s).1, B, a', (allS most s).2.2) ∧ Sim B a' (allS most s).2 := by
  obtain ⟨h1, h2, h3⟩ := N.ok_num hO
  obtain ⟨a1, e1, s1⟩ := N.rNum_eq hB h
  unfold r16_GetAll_o allS
  have hmost : (cond (decide (most < 0)) (pure 0) (pure most) : M Int) = pure (max most 0) := by
    by_cases c : most < 0
    · rw [decide_eq_true c, cond_true]; congr 1; omega
    · rw [decide_eq_false c, cond_false]; congr 1; omega
  rw [hmost, pure_bind, e1, det_pure, pure_bind, wU64 (n := max most 0) (by omega) (by omega)]
  have done : ∀ (out : List TEvent) (a2 : Int) (i : Int) (t : RS), t.2 ≠ 0 → loop (r16_GetAll_o_l0 ((numS s).1, B, a1, (numS s).2.2)) (i, out, B, a2, t.2) = pure (out, B, a2, t.2) := fun out a2 i t ht => loop_done (by
    unfold r16_GetAll_o_l0
    have hq : (cond (decide (i < (numS s).1)) (pure (decide (t.2 = 0))) (pure false) : M Bool) = pure false := by
      rw [decide_eq_false ht]; cases decide (i < (numS s).1) <;> rfl
    simp only []
    rw [hq, pure_bind]
    rfl)
  by_cases c : max most 0 < (numS s).1
  · have hF := N.rFail_eq B a1 (numS s).2 (e := 3) (by decide)
    have hb := N.fail_bad (s := (numS s).2) (e := 3) (by decide)
    rw [decide_eq_true c, cond_true, if_pos c, hF, det_pure, pure_bind, pure_bind]
    simp only []
    rw [done _ _ _ _ hb, pure_bind]
    simp only [decide_eq_false hb, Bool.not_false, cond_true]
    exact ⟨_, rfl, s1.fail (by decide)⟩
  · rw [decide_eq_false c, cond_false, if_neg c, pure_bind]
    simp only []
    by_cases c2 : (numS s).2.2 = 0
    · obtain ⟨out', a', e2, s2, q1, q2⟩ := rall_loop hB (y7 := ((numS s).1, B, a1, (numS s).2.2)) ⟨h2, h3⟩ (numS s).1.toNat 0 [] (numS s).2 a1 (by simp; omega) h1 c2 s1 (by simp; have := h1.len; omega)
      have e2' : loop (r16_GetAll_o_l0 ((numS s).1, B, a1, (numS s).2.2)) (0, [], B, a1, (numS s).2.2) = pure (out', B, a', (allL (numS s).1.toNat [] (numS s).2).2.2) := e2
      rw [e2', pure_bind]
      refine ⟨a', ?_, s2⟩
      by_cases c3 : (allL (numS s).1.toNat [] (numS s).2).2.2 = 0
      · simp only [decide_eq_true c3, Bool.not_true, cond_false, q1 c3]
      · simp only [decide_eq_false c3, Bool.not_false, cond_true, q2 c3]
    · rw [D.num_zero c2] at *
      rw [done _ _ _ _ c2, pure_bind]
      simp only [decide_eq_false c2, Bool.not_false, cond_true]
      exact ⟨_, rfl, s1⟩
/-- What is read is good, in order. -/
abbrev SrtE (l : List TEvent) : Prop := l.Pairwise fun x y => ltDot x.dot y.dot = true
theorem srtE_snoc {out : List TEvent} {x : TEvent} (hs : SrtE out) (h : lastGeE out x = false) : SrtE (out ++ [x]) := by
  unfold SrtE
  rw [List.pairwise_append]
  refine ⟨hs, by simp, fun a ha b hb => ?_⟩
  rw [List.mem_singleton.1 hb]
  rcases R.snoc_cases out with rfl | ⟨q, y, rfl⟩
  · simp at ha
  · have hy : ltDot y.dot x.dot = true := by
      unfold lastGeE at h
      simp only [List.getLast?_append, List.getLast?_singleton, Option.some_or, D.cmp_ge] at h
      simpa using h
    rcases List.mem_append.1 ha with h5 | h5
    · exact D.lt_trans ((List.pairwise_append.1 hs).2.2 a h5 y (by simp)) hy
    · rw [List.mem_singleton.1 h5]; exact hy
theorem allL_props : ∀ (k : Nat) (out : List TEvent) (s : RS), Ok s → s.2 = 0 → SrtE out → (∀ e ∈ out, OkE e ∧ goodE e = true) → out.length + s.1.length ≤ 1000000000 →
    SrtE (allL k out s).1 ∧ (∀ e ∈ (allL k out s).1, OkE e ∧ goodE e = true) ∧ (allL k out s).1.length ≤ 1000000000 ∧ ((allL k out s).2.2 = 0 → ∃ l, (allL k out s).1 = out ++ l ∧ l.length = k ∧ s.1 = l.flatMap encE ++ (allL k out s).2.1) ∧ ((allL k out s).2.2 ≠ 0 → (allL k out s).1 = [])
  | 0, out, s, _, h0, hs, hg, hl => ⟨hs, hg, by show out.length ≤ _; omega, fun _ => ⟨[], by simp [allL], rfl, by simp [allL]⟩, fun h => absurd h0 h⟩
  | k + 1, out, s, hO, h0, hs, hg, hl => by
    by_cases c : (allT out s).2 = 0
    · obtain ⟨c1, c2, c3⟩ := allT_ok c
      obtain ⟨i1, i2, i3, i4⟩ := get_inv hO c2
      have hlt := get_lt hO c2
      rw [allL_next c]
      obtain ⟨q1, q2, q3, q4, q5⟩ := allL_props k (out ++ [(getS s).1]) (allT out s) (ok_allT hO out) c (srtE_snoc hs c1) (fun e he => by
        rcases List.mem_append.1 he with h | h
        · exact hg e h
        · rw [List.mem_singleton.1 h]; exact ⟨i3, i2⟩) (by rw [c3]; simp; omega)
      refine ⟨q1, q2, q3, fun hz => ?_, q5⟩
      obtain ⟨l, e1, e2, e3⟩ := q4 hz
      refine ⟨(getS s).1 :: l, by rw [e1]; simp, by simp [e2], ?_⟩
      rw [List.flatMap_cons, List.append_assoc, ← e3, c3]
      exact i4
    · rw [allL_bad c]
      exact ⟨List.Pairwise.nil, by simp, by simp, fun h => absurd h c, fun _ => rfl⟩
theorem all_props {s : RS} (hO : Ok s) (most : Int) : SrtE (allS most s).1 ∧ (∀ e ∈ (allS most s).1, OkE e ∧ goodE e = true) ∧ (allS most s).1.length ≤ 1000000000 ∧ ((allS most s).2.2 = 0 → s.1 = encEs (allS most s).1 ++ (allS most s).2.1 ∧ ((allS most s).1.length : Int) ≤ max most 0) ∧ ((allS most s).2.2 ≠ 0 → (allS most s).1 = []) := by
  obtain ⟨h1, h2, h3⟩ := N.ok_num hO
  unfold allS
  by_cases c : max most 0 < (numS s).1
  · rw [if_pos c]
    exact ⟨List.Pairwise.nil, by simp, by simp, fun h => absurd h (N.fail_bad (by decide)), fun _ => rfl⟩
  · rw [if_neg c]
    by_cases c2 : (numS s).2.2 = 0
    · obtain ⟨q1, q2, q3, q4, q5⟩ := allL_props (numS s).1.toNat [] (numS s).2 h1 c2 List.Pairwise.nil (by simp) (by simp; have := h1.len; omega)
      refine ⟨q1, q2, q3, fun hz => ?_, q5⟩
      obtain ⟨l, e1, e2, e3⟩ := q4 hz
      rw [List.nil_append] at e1
      rw [e1]
      refine ⟨?_, by omega⟩
      rw [encEs, List.append_assoc, ← e3, e2, Int.toNat_of_nonneg h2]
      exact D.num_inv hO c2
    · rw [D.num_zero c2]
      exact ⟨List.Pairwise.nil, by simp [allL], by simp [allL], fun h => absurd h c2, fun _ => rfl⟩
def decE (b : List Int) : TEvent × Int := if (endS (getS (b, 0)).2).1 ≠ 0 then (noE, (endS (getS (b, 0)).2).1) else ((getS (b, 0)).1, 0)
theorem Decode_eq {b : List Int} (hB : OkB b) : ecode_Decode b = pure (decE b) := by
  unfold ecode_Decode decE
  rw [N.New_eq b hB.len, det_pure, pure_bind, Get_eq hB.ok, det_pure, pure_bind, N.End_eq, det_pure, pure_bind]
  by_cases c : (endS (getS (b, 0)).2).1 = 0
  · rw [decide_eq_true c, Bool.not_true, cond_false, if_neg (by simp [c])]
  · rw [decide_eq_false c, Bool.not_false, cond_true, if_pos c]; rfl
theorem rDecode_eq {b : List Int} (hB : OkB b) : r16_Decode b = pure (decE b) := by
  obtain ⟨a1, e1, s1⟩ := rGet_eq hB hB.ok (Sim.start b)
  obtain ⟨a2, e2⟩ := N.rEndS_eq hB (ok_gets hB.ok) s1
  unfold r16_Decode decE
  rw [show r16_Get_o b 0 0 = r16_Get_o b 0 ((b, 0) : RS).2 from rfl, e1, det_pure, pure_bind]
  simp only []
  rw [e2, det_pure, pure_bind]
  by_cases c : (endS (getS (b, 0)).2).1 = 0
  · rw [decide_eq_true c, Bool.not_true, cond_false, if_neg (by simp [c])]
  · rw [decide_eq_false c, Bool.not_false, cond_true, if_pos c]; rfl
theorem okE_none : OkE noE := ⟨⟨by decide, by decide, by decide, by decide⟩, by decide, by decide, by decide, by decide, (fun d hd => by cases hd), by decide⟩
theorem get_okE {s : RS} (hO : Ok s) : OkE (getS s).1 := by
  unfold getS
  by_cases c : (getT s).2 = 0
  · rw [D.fin_ok c]; exact (ok_get hO).2.2.2.2.2.2
  · rw [D.fin_bad c]; exact okE_none
theorem decE_okE {b : List Int} (hB : OkB b) : OkE (decE b).1 := by
  unfold decE
  split
  · exact okE_none
  · exact get_okE hB.ok
theorem ecodeReads_eq (b : List Int) (most : Int) (hb : ∀ x ∈ b, 0 ≤ x ∧ x ≤ 255) (hm : most ≤ 9223372036854775807) : l16_EcodeReads b most = pure true := by
  unfold l16_EcodeReads
  rw [works_eq]
  by_cases hl : b.length ≤ 1000
  · have hB : OkB b := ⟨hb, by omega⟩
    have h0 := hB.ok
    have hd : decide ((1000 : Int) < (b.length : Int)) = false := by simp; omega
    obtain ⟨a1, e1, s1⟩ := rGetAll_eq hB h0 (Sim.start b) hm
    have o1 := ok_all h0 most
    obtain ⟨a2, e2⟩ := N.rEndS_eq hB o1 s1
    obtain ⟨q1, q2, q3, _, _⟩ := all_props h0 most
    obtain ⟨a3, e3, s3⟩ := rGet_eq hB h0 (Sim.start b)
    have e1' : r16_GetAll_o most b 0 0 = pure ((allS most (b, 0)).1, b, a1, (allS most (b, 0)).2.2) := e1
    have p1 : ecode_GetAll_o most b 0 = pure (allS most (b, 0)) := GetAll_eq h0 hm
    have e3' : r16_Get_o b 0 0 = pure ((getS (b, 0)).1, b, a3, (getS (b, 0)).2.2) := e3
    have p3 : ecode_Get_o b 0 = pure (getS (b, 0)) := Get_eq h0
    have c1 := rAll_eq (allS most (b, 0)).1 (allS most (b, 0)).1 (by omega) fun e he => by have := (q2 e he).1.klen; omega
    have c2 := rSame_eq (decE b).1 (decE b).1 (by have := (decE_okE hB).klen; omega)
    have c3 := rSame_eq (getS (b, 0)).1 (getS (b, 0)).1 (by have := (get_okE h0).klen; omega)
    simp only [hd, cond_false, N.New_eq b (by omega), det_pure, pure_bind, p1, e1', c1, decide_true, Bool.not_true, N.End_eq, e2, Decode_eq hB, rDecode_eq hB, c2, cond_true, p3, e3', c3, N.Err_eq]
  · have hd : decide ((1000 : Int) < (b.length : Int)) = true := by simp; omega
    rw [hd, cond_true, det_pure, pure_bind]

def keepK (l : List TDot) (c : List TPart) : List TDot := D.sortD (l.filter fun d => C.hasC c d.dev d.n)
def again (dev : Int) (c : List TPart) (i : Nat) (e : TEvent) : TEvent := ⟨⟨dev, (i : Int) + 1⟩, e.kind, e.cid, e.field, e.text, keepK e.kills c⟩
def e0 : TEvent := ⟨⟨0, 0⟩, 0, 0, 0, ⟨#[]⟩, []⟩
def e4 : TEvent := ⟨⟨0, 0⟩, 0, 0, 0, ⟨#[101]⟩, []⟩
end Go.Ep.M.E

namespace Go.Ep
open Go.RowKit Go.ChangeShapes Go.WideShapes

abbrev All : Nat → Prop := fun _ => True

mutual
/-- How many values and letters a reading holds. -/
def bulk {H : Type} : DataW H → Nat
  | .lit (.string bytes) => bytes.length + 1
  | .lit _ => 1
  | .nil => 1
  | .ptr d => bulk d + 1
  | .slice elems spare => bulkAll elems + bulkAll spare + 1
  | .agg parts => bulkAll parts + 1
  | .iface _ d => bulk d + 1
  | .map entries => bulkEntries entries + 1
  | .held _ => 1
def bulkAll {H : Type} : List (DataW H) → Nat
  | [] => 0
  | d :: r => bulk d + bulkAll r
def bulkEntries {H : Type} : List (Lit × DataW H) → Nat
  | [] => 0
  | x :: r => bulkEntry x + bulkEntries r
def bulkEntry {H : Type} : Lit × DataW H → Nat
  | (.string bytes, d) => bytes.length + bulk d + 1
  | (_, d) => bulk d + 1
end
theorem one_bulk {H : Type} (d : DataW H) : 1 ≤ bulk d := by
  cases d with
  | lit l => cases l <;> simp [bulk]
  | nil => simp [bulk]
  | ptr d => simp [bulk]
  | slice elems spare => simp [bulk]
  | agg parts => simp [bulk]
  | iface t d => simp [bulk]
  | map entries => simp [bulk]
  | held h => simp [bulk]
theorem bulkAll_app {H : Type} (l r : List (DataW H)) : bulkAll (l ++ r) = bulkAll l + bulkAll r := by
  induction l with
  | nil => simp [bulkAll]
  | cons x l ih => simp only [List.cons_append, bulkAll, ih]; omega
def szL {α : Type} (sz : α → Nat) : List α → Nat
  | [] => 0
  | a :: r => sz a + szL sz r
theorem szL_app {α : Type} (sz : α → Nat) (l r : List α) : szL sz (l ++ r) = szL sz l + szL sz r := by
  induction l with
  | nil => simp [szL]
  | cons x l ih => simp only [List.cons_append, szL, ih]; omega
/-- What is read at this type is data of this kind. -/
structure Opn (P : Program) (t : TypeId) (k : Nat) {α : Type} (enc : α → List DV) (ok : α → Prop) (sz : α → Nat) : Prop where
  cells : P.cellsOf t = k
  op : ∀ {H : Type} {en : TypeId × Value → H} {w : World} {fuel : Nat} {cs : List Value} {x : DataW H × List MemPlace}, DataW.trod en P w 0 (fun _ => true) true fuel t cs = some x →
    ∃ a, ok a ∧ cs.length = k ∧ (enc a).length = k ∧ (∀ (j : Nat) (y : DV) (u : Value), (enc a)[j]? = some y → cs[j]? = some u → DRd w All y u) ∧ sz a ≤ bulk x.1

section
variable {P : Program} {t : TypeId}

theorem Opn.map {k : Nat} {α β : Type} {enc : α → List DV} {enc' : β → List DV} {ok : α → Prop} {ok' : β → Prop} {sz : α → Nat} {sz' : β → Nat} (h : Opn P t k enc ok sz) (f : α → β) (he : ∀ a, ok a → enc' (f a) = enc a) (ho : ∀ a, ok a → ok' (f a)) (hz : ∀ a, sz' (f a) ≤ sz a) : Opn P t k enc' ok' sz' :=
  ⟨h.cells, fun hx => let ⟨a, h1, h2, h3, h4, h5⟩ := h.op hx; ⟨f a, ho a h1, h2, by rw [he a h1]; exact h3, by rw [he a h1]; exact h4, Nat.le_trans (hz a) h5⟩⟩

theorem one_get {w : World} {y : DV} {u : Value} (h : DRd w All y u) : ∀ (j : Nat) (y' : DV) (u' : Value), [y][j]? = some y' → [u][j]? = some u' → DRd w All y' u' := by
  intro j y' u' h1 h2
  cases j with
  | zero => simp at h1 h2; subst h1; subst h2; exact h
  | succ j => simp at h1

def okK (k : IntKind) (n : Int) : Prop := (Lit.int k n).wf = true
theorem Opn.int {k : IntKind} (hu : P.underlying t = some (.int k)) (hc : P.cellsOf t = 1) : Opn P t 1 (eK k) (okK k) (fun _ => 1) := by
  refine ⟨hc, fun {H en w fuel cs x} h => ?_⟩
  cases fuel with
  | zero => simp [DataW.trod] at h
  | succ fuel =>
    unfold DataW.trod at h
    rw [hu] at h
    split at h <;> simp_all
    case h_2 n _ =>
      obtain ⟨⟨h1, h2⟩, _⟩ := h
      subst h1
      refine ⟨n, h2, rfl, ?_, one_bulk _⟩
      intro j y u h1 h3
      exact one_get (.v _ rfl) j y u h1 h3
theorem okU8 {n : Int} (h : okK .u8 n) : 0 ≤ n ∧ n < 256 := by
  simp [okK, Lit.wf, IntKind.min, IntKind.max, IntKind.signed, IntKind.bits] at h; omega
theorem okI64 {n : Int} (h : okK .i64 n) : -9223372036854775808 ≤ n ∧ n ≤ 9223372036854775807 := by
  simp [okK, Lit.wf, IntKind.min, IntKind.max, IntKind.signed, IntKind.bits] at h; omega
theorem Opn.slice {e : TypeId} {k : Nat} {α : Type} {enc : α → List DV} {ok : α → Prop} {sz : α → Nat} (h : Opn P e k enc ok sz) (hu : P.underlying t = some (.slice e)) (hc : P.cellsOf t = 1) (hk : 0 < k) :
    Opn P t 1 (eL enc) (fun l => l.length ≤ 9223372036854775807 ∧ ∀ a ∈ l, ok a) (fun l => szL sz l + 1) := by
  refine ⟨hc, fun {H en w fuel cs x} hx => ?_⟩
  rcases Deep.open_slice hu hx with ⟨rfl, _⟩ | ⟨a, len, cap, m, n, D, Pl, rfl, _, hl, hm, hmm, hxD, hel⟩
  · exact ⟨[], ⟨Nat.zero_le _, by simp⟩, rfl, rfl, one_get (.nil none 0 (Nat.zero_le _) (fun _ => rfl)), one_bulk _⟩
  simp only [if_true] at hmm
  subst hmm
  rw [h.cells] at hel
  have hcut : ∀ n0, n0 ≤ len → ∃ l : List α, l.length = n0 ∧ (∀ a ∈ l, ok a) ∧ szL sz l ≤ bulkAll ((List.range n0).map D) ∧ ∀ (i : Nat) (b : α), l[i]? = some b → (enc b).length = k ∧ ∀ (j : Nat) (y : DV), (enc b)[j]? = some y → ∃ u, w.cell? (a.add (i * k + j)) = some u ∧ DRd w All y u := by
    intro n0
    induction n0 with
    | zero => intro _; exact ⟨[], rfl, by simp, by simp [szL], by simp⟩
    | succ n0 ih =>
      intro hn
      obtain ⟨l, h1, h2, hz, h3⟩ := ih (by omega)
      obtain ⟨cs', hc', ht'⟩ := hel n0 (by omega)
      obtain ⟨b, hb1, hb2, hb3, hb4, hb5⟩ := h.op ht'
      obtain ⟨_, _, hcell⟩ := World.cells?_some hc'
      refine ⟨l ++ [b], by simp [h1], ?_, by rw [szL_app, List.range_succ, List.map_append, bulkAll_app]; simp only [szL, List.map_cons, List.map_nil, bulkAll]; simp only at hb5; omega, ?_⟩
      · intro a ha
        rcases List.mem_append.1 ha with ha | ha
        · exact h2 a ha
        · simp at ha; subst ha; exact hb1
      · intro i b' hi
        rw [List.getElem?_append] at hi
        split at hi
        · exact h3 i b' hi
        · rename_i hge
          have hi0 : i = n0 := by
            have : i - l.length < 1 := by simpa using (List.getElem?_eq_some_iff.1 hi).1
            omega
          subst hi0
          simp [h1] at hi
          subst hi
          refine ⟨hb3, fun j y hy => ?_⟩
          have hj : j < k := by rw [← hb3]; exact (List.getElem?_eq_some_iff.1 hy).1
          have hcj := hcell j hj
          rw [Deep.add_add] at hcj
          have hu' : cs'[j]? = some (cs'[j]'(by omega)) := List.getElem?_eq_getElem (by omega)
          exact ⟨_, by rw [hcj, hu'], hb4 j y _ hy hu'⟩
  obtain ⟨l, h1, h2, hz, h3⟩ := hcut len (Nat.le_refl _)
  refine ⟨l, ⟨by unfold maxLen at hm; omega, h2⟩, rfl, rfl, one_get ?_, ?_⟩
  rotate_left
  · rw [hxD]; simp only [bulk]; omega
  by_cases h0 : len = 0
  · have : l = [] := List.eq_nil_of_length_eq_zero (by omega)
    subst this
    subst h0
    exact .nil _ _ hm (fun e => by cases e)
  · -- the first cell tells that the address is a plain one
    have hl0 : 0 < l.length := by omega
    obtain ⟨hk0, hc0⟩ := h3 0 _ (List.getElem?_eq_getElem hl0)
    obtain ⟨u0, hu0, _⟩ := hc0 0 _ (List.getElem?_eq_getElem (by omega : 0 < (enc l[0]).length))
    have hspot : a.spot = none := by simpa [Addr.add] using World.cell?_spot hu0
    obtain ⟨b, off, spot⟩ := a
    simp only at hspot
    subst hspot
    have hb : b < w.heap.size := by
      rw [Addr.add_lit] at hu0
      unfold World.cell? at hu0
      cases hh : w.heap[b]? with
      | none => simp [hh] at hu0
      | some o => exact (Array.getElem?_eq_some_iff.1 hh).1
    have hlen : (l.map enc).length = len := by simp [h1]
    rw [← hlen]
    refine .sl _ b off m k (fun i j => (w.cell? ⟨b, off + (i * k + j), none⟩).getD undef) (by omega) hm trivial hb ?_ ?_ ?_
    · intro i cs hi
      rw [List.getElem?_map] at hi
      cases hx : l[i]? with
      | none => simp [hx] at hi
      | some y => simp [hx] at hi; subst hi; exact (h3 i y hx).1
    · intro i j hi hj
      have hil : i < l.length := by simpa using hi
      obtain ⟨e1, e2⟩ := h3 i _ (List.getElem?_eq_getElem hil)
      obtain ⟨u, hu, _⟩ := e2 j _ (List.getElem?_eq_getElem (by omega : j < (enc l[i]).length))
      rw [Addr.add_lit] at hu
      simp [hu]
    · intro i cs j x hi hx
      rw [List.getElem?_map] at hi
      cases hy : l[i]? with
      | none => simp [hy] at hi
      | some y =>
        simp [hy] at hi
        subst hi
        obtain ⟨u, hu, hd⟩ := (h3 i y hy).2 j x hx
        rw [Addr.add_lit] at hu
        simpa [hu] using hd

/-- The fields from offset off on. -/
structure OpnF (P : Program) (fs : List Field) (off k : Nat) {α : Type} (enc : α → List DV) (ok : α → Prop) (sz : α → Nat) : Prop where
  op : ∀ {H : Type} {en : TypeId × Value → H} {w : World} {n : Nat} {cs : List Value} {xs : List (DataW H × List MemPlace)}, xs.length = fs.length →
    (∀ (i : Nat) (f : Field), fs[i]? = some f → DataW.trod en P w 0 (fun _ => true) true n f.type ((cs.drop f.offset).take (P.cellsOf f.type)) = xs[i]?) →
    ∃ a, ok a ∧ (enc a).length = k ∧ (∀ (j : Nat) (y : DV) (u : Value), (enc a)[j]? = some y → cs[off + j]? = some u → DRd w All y u) ∧ sz a ≤ bulkAll (xs.map (·.1))

theorem OpnF.nil (off : Nat) : OpnF P [] off 0 (fun _ : Unit => []) (fun _ => True) (fun _ => 0) := ⟨fun _ _ => ⟨(), trivial, rfl, by simp, Nat.zero_le _⟩⟩
theorem OpnF.cons {f : Field} {fs : List Field} {off k1 k2 : Nat} {α β : Type} {e1 : α → List DV} {o1 : α → Prop} {e2 : β → List DV} {o2 : β → Prop} {z1 : α → Nat} {z2 : β → Nat} (h1 : Opn P f.type k1 e1 o1 z1) (ho : f.offset = off) (h2 : OpnF P fs (off + k1) k2 e2 o2 z2) :
    OpnF P (f :: fs) off (k1 + k2) (fun p : α × β => e1 p.1 ++ e2 p.2) (fun p => o1 p.1 ∧ o2 p.2) (fun p => z1 p.1 + z2 p.2) := by
  refine ⟨fun {H en w n cs xs} hlen hx => ?_⟩
  cases xs with
  | nil => simp at hlen
  | cons x xs =>
    have hx0 := hx 0 f rfl
    simp only [List.getElem?_cons_zero] at hx0
    obtain ⟨a, ha1, ha2, ha3, ha4, ha5⟩ := h1.op hx0
    obtain ⟨b, hb1, hb2, hb3, hb4⟩ := h2.op (xs := xs) (by simpa using hlen) (fun i f' hf => by have := hx (i + 1) f' (by simpa using hf); simpa using this)
    refine ⟨(a, b), ⟨ha1, hb1⟩, by simp [ha3, hb2], ?_, by simp only [List.map_cons, bulkAll]; omega⟩
    intro j y u hy hu
    simp only [List.getElem?_append] at hy
    by_cases hj : j < k1
    · rw [if_pos (by omega)] at hy
      refine ha4 j y u hy ?_
      rw [List.getElem?_take, h1.cells, if_pos hj, List.getElem?_drop, ho]
      exact hu
    · rw [if_neg (by omega), ha3] at hy
      refine hb3 (j - k1) y u hy ?_
      rw [← hu]
      congr 1
      omega
theorem Opn.struct {fs : List Field} {k : Nat} {α : Type} {enc : α → List DV} {ok : α → Prop} {sz : α → Nat} (hu : P.underlying t = some (.struct fs.toArray)) (hc : P.cellsOf t = k) (h : OpnF P fs 0 k enc ok sz) : Opn P t k enc ok (fun a => sz a + 1) := by
  refine ⟨hc, fun {H en w fuel cs x} hx => ?_⟩
  obtain ⟨xs, n, _, hxe, hlen, hxl, hf⟩ := DataW.trod_struct hu hx
  obtain ⟨a, h1, h2, h3, h4⟩ := h.op (cs := cs) (xs := xs) (by simpa using hxl) (fun i f hi => hf i f (by simpa using hi))
  exact ⟨a, h1, by rw [hlen, hc], h2, fun j y u hy hu => h3 j y u hy (by simpa using hu), by rw [hxe]; simp only [bulk]; omega⟩

/-- A one-cell argument. -/
theorem Opn.arg {H : Type} {en : TypeId × Value → H} {w : World} {v : Value} {d : DataW H} {ps : List MemPlace} {α : Type} {enc : α → DV} {ok : α → Prop} {sz : α → Nat} (h : Opn P t 1 (fun a => [enc a]) ok sz)
    (hx : DataW.Trod en P w 0 (fun _ => true) true t v d ps) (h1 : v.oneCell' = true) : ∃ a, ok a ∧ Rd w g0 All (.d (enc a)) v ∧ sz a ≤ bulk d := by
  obtain ⟨fuel, hf⟩ := hx
  obtain ⟨a, ha, _, _, hr, hz⟩ := h.op hf
  have hcs : v.cells.toList = [v] := by cases v <;> first | rfl | (simp [Value.oneCell'] at h1; done)
  exact ⟨a, ha, .d (hr 0 _ v rfl (by rw [hcs]; rfl)), hz⟩
theorem trodAll_below {H : Type} {en : TypeId × Value → H} (hl : laidOutB P = true) {W W' : World} (hb : Below W.heap.size W W') : ∀ {ts : List TypeId} {vs : List Value} {ds : List (DataW H)} {ps : List MemPlace},
    (∀ t ∈ ts, P.readableRec t = true ∧ t < P.types.size) → DataW.TrodAll en P W 0 (fun _ => true) true ts vs ds ps → (∀ x ∈ ps, x.block < W.heap.size) → DataW.TrodAll en P W' 0 (fun b => decide (b < W.heap.size)) true ts vs ds ps
  | [], [], [], ps, _, h, _ => h
  | t :: ts, v :: vs, d :: ds, ps, hr, h, hlt => by
    obtain ⟨p, q, h1, h2, rfl⟩ := h
    have hrt := hr t (by simp)
    exact ⟨p, q, Below.trod hl hrt.1 hrt.2 h1 hb (fun x hx => hlt x (List.mem_append.2 (.inl hx))), trodAll_below hl hb (fun t ht => hr t (by simp [ht])) h2 (fun x hx => hlt x (List.mem_append.2 (.inr hx))), rfl⟩
  | [], [], _ :: _, _, _, h, _ => h.elim
  | [], _ :: _, _, _, _, h, _ => h.elim
  | _ :: _, [], _, _, _, h, _ => h.elim
  | _ :: _, _ :: _, [], _, _, h, _ => h.elim
theorem trodAll_len {H : Type} {en : TypeId × Value → H} {w : World} {base : Nat} {sp : Nat → Bool} {hd : Bool} : ∀ {ts : List TypeId} {vs : List Value} {ds : List (DataW H)} {ps : List MemPlace}, DataW.TrodAll en P w base sp hd ts vs ds ps → ds.length = ts.length
  | [], [], [], _, _ => rfl
  | _ :: _, _ :: _, _ :: _, _, h => by
    obtain ⟨_, _, _, h2, _⟩ := h
    simp [trodAll_len h2]
  | [], [], _ :: _, _, h => h.elim
  | [], _ :: _, _, _, h => h.elim
  | _ :: _, [], _, _, h => h.elim
  | _ :: _, _ :: _, [], _, h => h.elim

/-- 'For every input true; the input reads as it did.' -/
theorem post_true {H : Type} {en : TypeId × Value → H} {fn : Func} {s : ChangeSpec} {tb : TypeId} {W W' : World} {args : Array Value} {ds gs : List (DataW H)} {before : List MemPlace} (hl : laidOutB P = true)
    (hW : DataW.Whole en P fn.params.toList s.vars false W args.toList ds gs before) (hv : s.vars = []) (hs : ∀ ds : List (DataW H), ds.length = fn.params.size → (s.fn H ds).results = [.lit (.bool true)] ∧ (s.fn H ds).args = ds ∧ (s.fn H ds).vars = [])
    (hres : fn.resultTypes = #[tb]) (htb : P.underlying tb = some .bool) (hr : ∀ t ∈ fn.params.toList, P.readableRec t = true ∧ t < P.types.size) (hb : Below W.heap.size W W') :
    s.post en P fn false true false false W args (.bool true) W' := by
  have hW' := hW
  obtain ⟨p, q, hA, hV, hpq, hfz, hnd⟩ := hW
  rw [hv] at hV
  obtain ⟨rfl, rfl⟩ := trodVars_none hV
  simp only [List.append_nil] at hpq
  subst hpq
  have hlt : ∀ x ∈ before, x.block < W.heap.size := fun x hx => by simpa using hW'.lt x hx
  have hlen : ds.length = fn.params.size := by simpa using trodAll_len hA
  obtain ⟨e1, e2, e3⟩ := hs (ds ++ []) (by simpa using hlen)
  refine ⟨ds, [], before, [], before, [], hW', ?_, ?_, ?_, hb.frame _, fun h => by cases h⟩
  · rw [e1, hres]
    exact trodAll_mk1 (shut_bool htb true)
  · rw [e2, List.append_nil]
    exact trodAll_below hl hb hr hA hlt
  · rw [e3, hv]; rfl
end
end Go.Ep

namespace Go.Ep
set_option linter.unusedVariables false

def TDot.ok (x : TDot) : Prop := okK .u16 x.dev ∧ okK .u64 x.n
def TDot.sz (x : TDot) : Nat := (1 + (1 + 0)) + 1
def TRun.ok (x : TRun) : Prop := okK .u64 x.lo ∧ okK .u64 x.hi
def TRun.sz (x : TRun) : Nat := (1 + (1 + 0)) + 1
def TPart.ok (x : TPart) : Prop := okK .u16 x.dev ∧ (List.length x.runs ≤ 9223372036854775807 ∧ ∀ a ∈ x.runs, TRun.ok a)
def TPart.sz (x : TPart) : Nat := (1 + ((szL TRun.sz x.runs + 1) + 0)) + 1
def TEvent.ok (x : TEvent) : Prop := TDot.ok x.dot ∧ okK .u8 x.kind ∧ okK .u64 x.cid ∧ okK .u8 x.field ∧ ByteArray.size x.text ≤ 9223372036854775807 ∧ (List.length x.kills ≤ 9223372036854775807 ∧ ∀ a ∈ x.kills, TDot.ok a)
def TEvent.sz (x : TEvent) : Nat := (TDot.sz x.dot + (1 + (1 + (1 + ((ByteArray.size x.text + 1) + ((szL TDot.sz x.kills + 1) + 0)))))) + 1
end Go.Ep
namespace Go.Proofs
open Go.Ep
set_option maxRecDepth 100000
end Go.Proofs

