/- Texts that the walks and laws lean on, side by side. -/
import Derived.ProofKit
import Derived.Deep.Slices
import Derived.Test.YtacnidaafcfgiaaProg
import Derived.KernelRfl
import Derived.Test.YtacnidaafcfgiaaMeb2
import Derived.Test.YtacnidaafcfgiaaMeb9
set_option linter.unusedVariables false
set_option linter.unusedSimpArgs false
namespace Go.Ep.M.E
open Go

theorem bytes_len (s : ByteArray) : (bytesL s).length = s.size := by simp [bytesL]
theorem by_bytes (s : ByteArray) : N.By (bytesL s) := fun x hx => by
  simp only [bytesL, List.mem_map] at hx
  obtain ⟨b, _, rfl⟩ := hx
  have := b.toNat_lt
  omega
theorem strL_data (l : List Int) : (strL l).data.toList = l.map fun n => UInt8.ofNat n.toNat := by
  have key : ∀ (l : List Int) (r : ByteArray), (l.foldl (fun r n => r.push (UInt8.ofNat n.toNat)) r).data.toList = r.data.toList ++ l.map fun n => UInt8.ofNat n.toNat := by
    intro l
    induction l with
    | nil => intro r; simp
    | cons x t ih => intro r; rw [List.foldl_cons, ih]; simp
  have := key l ByteArray.empty
  simpa [strL] using this
theorem strL_bytes (s : ByteArray) : strL (bytesL s) = s := by
  have h := strL_data (bytesL s)
  have e : (bytesL s).map (fun n => UInt8.ofNat n.toNat) = s.data.toList := by
    simp only [bytesL, List.map_map]
    apply List.ext_getElem?
    intro i
    rw [List.getElem?_map]
    cases s.data.toList[i]? with
    | none => rfl
    | some b => simp
  rw [e] at h
  have h2 : (strL (bytesL s)).data = s.data := Array.toList_inj.1 h
  cases hs : strL (bytesL s)
  cases s
  rw [hs] at h2
  simp only at h2
  rw [h2]
theorem bytes_strL {l : List Int} (h : N.By l) : bytesL (strL l) = l := by
  rw [bytesL, strL_data, List.map_map]
  apply List.ext_getElem?
  intro i
  rw [List.getElem?_map]
  cases hx : l[i]? with
  | none => rfl
  | some x =>
    have := h x (List.mem_of_getElem? hx)
    simp only [Option.map_some, Function.comp_apply, UInt8.toNat_ofNat']
    congr 1; omega
theorem strL_size (l : List Int) : (strL l).size = l.length := by
  have := congrArg List.length (strL_data l)
  simpa using this

def cidD (v : Int) : TDot := ⟨v / 281474976710656, v % 281474976710656⟩
theorem band48 {v : Int} (h0 : 0 ≤ v) (h : v ≤ 18446744073709551615) : bAnd .u64 v 281474976710655 = v % 281474976710656 := by
  obtain ⟨n, rfl⟩ := Int.eq_ofNat_of_zero_le h0
  unfold bAnd
  have bv : ∀ q : Nat, q < 18446744073709551616 → (BitVec.ofInt IntKind.u64.bits (q : Int)).toNat = q := fun q hq => by
    show (BitVec.ofInt 64 (q : Int)).toNat = q
    rw [BitVec.toNat_ofInt]; omega
  have e : (281474976710655 : Int) = ((281474976710655 : Nat) : Int) := rfl
  rw [e, BitVec.toNat_and, bv n (by omega), bv _ (by decide)]
  have h2 : n &&& 281474976710655 = n % 281474976710656 := Nat.and_two_pow_sub_one_eq_mod n 48
  rw [h2, wU64 (by omega) (by omega)]
  omega
theorem Split_eq {v : Int} (h0 : 0 ≤ v) (h : v ≤ 18446744073709551615) : shift_Split v = pure ((cidD v).dev, (cidD v).n) := by
  unfold shift_Split cidD
  have e : (2 ^ 48 : Int) = 281474976710656 := rfl
  rw [band48 h0 h, Int.fdiv_eq_ediv_of_nonneg _ (by decide), e, wU16 (by omega) (by omega)]
theorem rSplit_eq {v : Int} (h0 : 0 ≤ v) (h : v ≤ 18446744073709551615) : r01_Split v = pure ((cidD v).dev, (cidD v).n) := by
  unfold r01_Split cidD
  rw [Int.tdiv_eq_ediv_of_nonneg h0, Int.tmod_eq_emod_of_nonneg h0, wU64 (by omega) (by omega), wU16 (by omega) (by omega)]
def goodC (v : Int) : Bool := V.goodD (cidD v)
theorem Unpack_eq {v : Int} (h0 : 0 ≤ v) (h : v ≤ 18446744073709551615) : dot_Unpack v = pure (if goodC v = true then cidD v else ⟨0, 0⟩, goodC v) := by
  unfold dot_Unpack
  rw [Split_eq h0 h, det_pure, pure_bind, V.dot_Good_eq, det_pure, pure_bind]
  show cond (!goodC v) _ _ = _
  cases goodC v <;> rfl
theorem rUnpack_eq {v : Int} (h0 : 0 ≤ v) (h : v ≤ 18446744073709551615) : r07_Unpack v = pure (if goodC v = true then cidD v else ⟨0, 0⟩, goodC v) := by
  unfold r07_Unpack
  rw [rSplit_eq h0 h, det_pure, pure_bind, V.r07_Good_eq, det_pure, pure_bind]
  show cond (!goodC v) _ _ = _
  cases goodC v <;> rfl

def goodF (f : Int) : Bool := decide (1 ≤ f) && decide (f ≤ 5)
theorem Field_eq (f : Int) : field_Good f = pure (goodF f) := by unfold field_Good goodF; rw [cond_pure_and]; rfl
theorem rField_eq (f : Int) : r11_Good f = pure (goodF f) := by unfold r11_Good goodF; rw [cond_pure_and]; rfl
def okB (x : Int) : Bool := decide (32 ≤ x) && decide (x ≤ 126)
def goodT (s : ByteArray) : Bool := decide (s.size ≤ 60) && (bytesL s).all okB
theorem all_zip {α : Type} (l : List α) (p : α → Bool) : (l.zipIdx.all fun y => p y.1) = l.all p := by
  rw [Bool.eq_iff_iff, List.all_eq_true, List.all_eq_true]
  constructor
  · intro h x hx
    obtain ⟨i, hi⟩ := List.getElem?_of_mem hx
    exact h (x, i) (by rw [List.mk_mem_zipIdx_iff_getElem?]; exact hi)
  · intro h y hy
    exact h y.1 (List.fst_mem_of_mem_zipIdx hy)
theorem okB_eq (x : Int) (f : M Bool) (hf : f = pure (decide (126 < x))) : (cond (decide (x < 32)) (pure true) f : M Bool) = pure (!okB x) := by
  rw [hf]
  unfold okB
  by_cases h1 : x < 32
  · have : ¬ 32 ≤ x := by omega
    simp [h1, this]
  · have : 32 ≤ x := by omega
    by_cases h2 : 126 < x
    · have : ¬ x ≤ 126 := by omega
      simp [h1, h2, this]
    · have : x ≤ 126 := by omega
      simp [h1, h2, *]
theorem text_loop (s : ByteArray) (hs : s.size ≤ 1000000000000) : loop (field_Text_l0 s) 0 = pure (if (bytesL s).all okB = true then Ex.brk () else Ex.ret false) := by
  have := loopAll (body := field_Text_l0 s) (bytesL s) (fun i => (i : Int)) (fun _ x => okB x) (Ex.brk ()) (Ex.ret false) (fun i x hx hi => by
    have hd : decide ((i : Int) < (s.size : Int)) = true := by rw [← bytes_len]; simpa using hi
    have hi2 : i < s.size := by rw [← bytes_len]; exact hi
    unfold field_Text_l0
    simp only [hd, cond_true, idx_nat hx, pure_bind, okB_eq x _ rfl, wSucc (show i < 9223372036854775807 by omega)]
    cases okB x <;> rfl) (by
    unfold field_Text_l0
    simp [bytes_len])
  rw [show (0 : Int) = ((0 : Nat) : Int) from rfl, this, all_zip]
theorem rtext_loop (s : ByteArray) (hs : s.size ≤ 1000000000000) : loop (r11_Text_l0 s) 0 = pure (if (bytesL s).all okB = true then Ex.brk () else Ex.ret false) := by
  have := loopAll (body := r11_Text_l0 s) (bytesL s) (fun i => (i : Int)) (fun _ x => okB x) (Ex.brk ()) (Ex.ret false) (fun i x hx hi => by
    have hd : decide ((i : Int) < (s.size : Int)) = true := by rw [← bytes_len]; simpa using hi
    have hi2 : i < s.size := by rw [← bytes_len]; exact hi
    unfold r11_Text_l0
    simp only [hd, cond_true, idx_nat hx, pure_bind, okB_eq x _ rfl, wSucc (show i < 9223372036854775807 by omega)]
    cases okB x <;> rfl) (by
    unfold r11_Text_l0
    simp [bytes_len])
  rw [show (0 : Int) = ((0 : Nat) : Int) from rfl, this, all_zip]
theorem Text_eq (s : ByteArray) (hs : s.size ≤ 1000000000000) : field_Text s = pure (goodT s) := by
  unfold field_Text goodT
  rw [text_loop s hs]
  by_cases h : s.size ≤ 60
  · have : decide ((60 : Int) < (s.size : Int)) = false := by simp; omega
    rw [this, cond_false, pure_bind, decide_eq_true h, Bool.true_and]
    cases (bytesL s).all okB <;> rfl
  · have : decide ((60 : Int) < (s.size : Int)) = true := by simp; omega
    rw [this, cond_true, decide_eq_false h, Bool.false_and]
theorem rText_eq (s : ByteArray) (hs : s.size ≤ 1000000000000) : r11_Text s = pure (goodT s) := by
  unfold r11_Text goodT
  rw [rtext_loop s hs, pure_bind]
  cases (bytesL s).all okB with
  | false => rw [Bool.and_false]; rfl
  | true =>
    rw [if_pos rfl, exk_brk, Bool.and_true]
    congr 1
    by_cases h : s.size ≤ 60
    · rw [decide_eq_true h]; simp; omega
    · rw [decide_eq_false h]; simp; omega

structure OkE (e : TEvent) : Prop where
  dot : D.OkD e.dot
  kind : 0 ≤ e.kind ∧ e.kind ≤ 255
  cid : 0 ≤ e.cid ∧ e.cid ≤ 18446744073709551615
  field : 0 ≤ e.field ∧ e.field ≤ 255
  text : e.text.size ≤ 1000000000
  kills : ∀ d ∈ e.kills, D.OkD d
  klen : e.kills.length ≤ 1000000000
def noText (s : ByteArray) : Bool := decide (s = ⟨#[]⟩)
def goodK (e : TEvent) : Bool := (decide (e.kind = 1) && (goodF e.field && goodT e.text)) || (decide (e.kind = 2) && (decide (e.field = 0) && noText e.text))
def goodL (e : TEvent) : Bool := decide (e.kills.length ≤ 256) && (D.riseB e.kills && e.kills.all fun d => V.goodD d && !decide (d = e.dot))
def goodE (e : TEvent) : Bool := (goodC e.cid && V.goodD e.dot) && (goodK e && goodL e)
theorem Rising_eq (l : List TDot) (hl : l.length ≤ 1000000000000) : dot_Rising l = pure (D.riseB l) := by
  unfold dot_Rising
  have key : ∀ (k i : Nat) (x : TDot) (r : List TDot), i + k = l.length → l.drop i = r → i ≠ 0 → l[i - 1]? = some x → loop (dot_Rising_l0 l) (i : Int) = pure (if D.riseB (x :: r) = true then Ex.brk () else Ex.ret false) := by
    intro k
    induction k with
    | zero =>
      intro i x r hi hr h1 hx
      have : r = [] := by rw [← hr]; exact List.drop_eq_nil_of_le (by omega)
      subst this
      exact loop_done (by
        unfold dot_Rising_l0
        have : decide ((i : Int) < (l.length : Int)) = false := by simp; omega
        simp only [this, cond_false]; rfl)
    | succ k ih =>
      intro i x r hi hr h1 hx
      have hlt : i < l.length := by omega
      have hr2 : r = l[i] :: l.drop (i + 1) := by rw [← hr]; exact List.drop_eq_getElem_cons hlt
      have hy := List.getElem?_eq_getElem hlt
      have hi1 : idx l (IntKind.i64.wrap ((i : Int) - 1)) = pure x := by
        rw [wI64 (by omega) (by omega)]
        exact idx_eq (by omega) (by rw [show ((i : Int) - 1).toNat = i - 1 by omega]; exact hx)
      have hb : dot_Rising_l0 l (i : Int) = cond (!ltDot x l[i]) (pure (.done (.ret false))) (pure (.next ((i + 1 : Nat) : Int))) := by
        unfold dot_Rising_l0
        have h2 : decide ((i : Int) < (l.length : Int)) = true := by simp; omega
        have h3 : decide ((0 : Int) < (i : Int)) = true := by simp; omega
        simp only [h2, h3, cond_true, hi1, idx_nat hy, pure_bind, D.Cmp_eq, det_pure, D.cmp_ge, wSucc (show i < 9223372036854775807 by omega)]
      rw [hr2]
      show _ = (pure (if (ltDot x l[i] && D.riseB (l[i] :: l.drop (i + 1))) = true then Ex.brk () else Ex.ret false) : M (Ex Unit Bool))
      cases c : ltDot x l[i] with
      | true =>
        rw [c] at hb
        rw [loop_next hb, Bool.true_and]
        exact ih (i + 1) l[i] _ (by omega) rfl (by omega) hy
      | false =>
        rw [c] at hb
        rw [loop_done hb]; rfl
  cases l with
  | nil =>
    rw [loop_done (r := Ex.brk ()) (by unfold dot_Rising_l0; rfl)]; rfl
  | cons x r =>
    have h0 : dot_Rising_l0 (x :: r) 0 = pure (.next 1) := by
      unfold dot_Rising_l0
      have h2 : decide ((0 : Int) < ((x :: r).length : Int)) = true := decide_eq_true (by rw [List.length_cons]; omega)
      simp only [h2, cond_true, show decide ((0 : Int) < 0) = false from rfl, cond_false, pure_bind]
      rw [wI64 (by omega) (by omega)]
      rfl
    have := key r.length 1 x r (by simp; omega) rfl (by decide) rfl
    rw [show ((1 : Nat) : Int) = 1 from rfl] at this
    rw [loop_next h0, this, pure_bind]
    cases D.riseB (x :: r) <;> rfl
theorem kills_loop (e : TEvent) (hl : e.kills.length ≤ 1000000000000) : loop (event_Good_l0 e) 0 = pure (if (e.kills.all fun d => V.goodD d && !decide (d = e.dot)) = true then Ex.brk () else Ex.ret false) := by
  have := loopAll (body := event_Good_l0 e) e.kills (fun i => (i : Int)) (fun _ d => V.goodD d && !decide (d = e.dot)) (Ex.brk ()) (Ex.ret false) (fun i x hx hi => by
    have hd : decide ((i : Int) < (e.kills.length : Int)) = true := by simpa using hi
    unfold event_Good_l0
    simp only [hd, cond_true, idx_nat hx, pure_bind, V.dot_Good_eq, det_pure, D.dotEq, wSucc (show i < 9223372036854775807 by omega)]
    cases V.goodD x <;> cases decide (x = e.dot) <;> rfl) (by
    unfold event_Good_l0
    simp)
  rw [show (0 : Int) = ((0 : Nat) : Int) from rfl, this, all_zip e.kills fun d => V.goodD d && !decide (d = e.dot)]
theorem Good_eq {e : TEvent} (h : OkE e) : event_Good e = pure (goodE e) := by
  have hk := h.klen; have ht := h.text
  unfold event_Good goodE
  rw [Unpack_eq h.cid.1 h.cid.2, det_pure, pure_bind, V.dot_Good_eq, det_pure, pure_bind, kills_loop e (by omega), Rising_eq e.kills (by omega), Field_eq, Text_eq e.text (by omega)]
  simp only []
  cases goodC e.cid with
  | false => rfl
  | true =>
    cases V.goodD e.dot with
    | false => rfl
    | true =>
      have hl : decide ((256 : Int) < (e.kills.length : Int)) = !decide (e.kills.length ≤ 256) := by
        by_cases c : e.kills.length ≤ 256
        · rw [decide_eq_true c]; simp; omega
        · rw [decide_eq_false c]; simp; omega
      have tail : (cond (decide ((256 : Int) < (e.kills.length : Int))) (pure true) ((det (pure (D.riseB e.kills))).bind fun v23 => pure (!v23))).bind (fun v21 => cond v21 (pure false) ((pure (if (e.kills.all fun d => V.goodD d && !decide (d = e.dot)) = true then Ex.brk () else Ex.ret false)).bind (exk fun _ => pure true))) = pure (goodL e) := by
        unfold goodL
        rw [hl, det_pure, pure_bind]
        cases decide (e.kills.length ≤ 256) with
        | false => rfl
        | true =>
          cases D.riseB e.kills with
          | false => rfl
          | true => cases e.kills.all fun d => V.goodD d && !decide (d = e.dot) <;> rfl
      simp only [Bool.not_true, cond_false, pure_bind, det_pure, Bool.true_and] at tail ⊢
      unfold goodK noText
      by_cases k1 : e.kind = 1
      · have k2 : decide (e.kind = 2) = false := by rw [k1]; rfl
        rw [decide_eq_true k1, cond_true, k2, Bool.true_and, Bool.false_and, Bool.or_false]
        cases goodF e.field with
        | false => rfl
        | true =>
          cases goodT e.text with
          | false => rfl
          | true => exact tail
      · rw [decide_eq_false k1, cond_false, Bool.false_and, Bool.false_or]
        by_cases k2 : e.kind = 2
        · rw [decide_eq_true k2, cond_true, Bool.true_and]
          cases decide (e.field = 0) with
          | false => rfl
          | true =>
            cases decide (e.text = (⟨#[]⟩ : ByteArray)) with
            | false => rfl
            | true => exact tail
        · rw [decide_eq_false k2]; rfl
theorem rHas_eq (l : List TDot) (d : TDot) (hl : l.length ≤ 1000000000000) : r07_Has l d = pure (l.any fun x => decide (x = d)) := by
  unfold r07_Has
  have := loopAll (body := r07_Has_l0 l d) l (fun i => (i : Int)) (fun _ x => !decide (x = d)) (Ex.brk ()) (Ex.ret true) (fun i x hx hi => by
    have hd : decide ((i : Int) < (l.length : Int)) = true := by simpa using hi
    unfold r07_Has_l0
    simp only [hd, cond_true, idx_nat hx, pure_bind, D.dotEq, wSucc (show i < 9223372036854775807 by omega)]
    cases decide (x = d) <;> rfl) (by
    unfold r07_Has_l0
    simp)
  rw [show (0 : Int) = ((0 : Nat) : Int) from rfl, this, pure_bind, all_zip l fun x => !decide (x = d)]
  have e : (l.any fun x => decide (x = d)) = !(l.all fun x => !decide (x = d)) := by simp [List.all_eq_not_any_not]
  rw [e]
  cases l.all fun x => !decide (x = d) <;> rfl
theorem rgood_loop (e : TEvent) (hl : e.kills.length ≤ 1000000000000) : loop (r13_Good_l0 e) 0 = pure (if e.kills.all V.goodD = true then Ex.brk () else Ex.ret false) := by
  have := loopAll (body := r13_Good_l0 e) e.kills (fun i => (i : Int)) (fun _ d => V.goodD d) (Ex.brk ()) (Ex.ret false) (fun i x hx hi => by
    have hd : decide ((i : Int) < (e.kills.length : Int)) = true := by simpa using hi
    unfold r13_Good_l0
    simp only [hd, cond_true, idx_nat hx, pure_bind, V.r07_Good_eq, det_pure, wSucc (show i < 9223372036854775807 by omega)]
    cases V.goodD x <;> rfl) (by
    unfold r13_Good_l0
    simp)
  rw [show (0 : Int) = ((0 : Nat) : Int) from rfl, this, all_zip e.kills V.goodD]
theorem rGood_eq {e : TEvent} (h : OkE e) : r13_Good e = pure (goodE e) := by
  have hk := h.klen; have ht := h.text
  unfold r13_Good goodE
  rw [rUnpack_eq h.cid.1 h.cid.2, det_pure, pure_bind, V.r07_Good_eq, det_pure, pure_bind, rgood_loop e (by omega), D.rRising_eq e.kills (by omega), rField_eq, rText_eq e.text (by omega), rHas_eq e.kills e.dot (by omega)]
  simp only []
  cases goodC e.cid with
  | false => rfl
  | true =>
    cases V.goodD e.dot with
    | false => rfl
    | true =>
      have hl : decide ((e.kills.length : Int) ≤ 256) = decide (e.kills.length ≤ 256) := by
        by_cases c : e.kills.length ≤ 256
        · rw [decide_eq_true c]; simp; omega
        · rw [decide_eq_false c]; simp; omega
      have hall : (e.kills.all fun d => V.goodD d && !decide (d = e.dot)) = (e.kills.all V.goodD && !(e.kills.any fun x => decide (x = e.dot))) := by
        rw [Bool.eq_iff_iff, Bool.and_eq_true, List.all_eq_true, List.all_eq_true, Bool.not_eq_true', List.any_eq_false]
        constructor
        · intro h
          exact ⟨fun x hx => by have := h x hx; rw [Bool.and_eq_true] at this; exact this.1, fun x hx => by have := h x hx; rw [Bool.and_eq_true] at this; simpa using this.2⟩
        · rintro ⟨h1, h2⟩ x hx
          rw [Bool.and_eq_true]
          exact ⟨h1 x hx, by simpa using h2 x hx⟩
      have tail : ((pure (if e.kills.all V.goodD = true then Ex.brk () else Ex.ret false) : M (Ex Unit Bool)).bind (exk fun _ => (cond (decide ((e.kills.length : Int) ≤ 256)) ((det (pure (D.riseB e.kills))).bind fun v46 => cond v46 ((det (pure (e.kills.any fun x => decide (x = e.dot)))).bind fun v49 => pure (!v49)) (pure false)) (pure false)).bind fun v44 => pure v44)) = pure (goodL e) := by
        unfold goodL
        rw [hl, hall]
        simp only [det_pure, pure_bind]
        cases e.kills.all V.goodD with
        | false => cases decide (e.kills.length ≤ 256) <;> cases D.riseB e.kills <;> rfl
        | true => cases decide (e.kills.length ≤ 256) <;> cases D.riseB e.kills <;> cases e.kills.any fun x => decide (x = e.dot) <;> rfl
      simp only [Bool.not_true, cond_false, pure_bind, det_pure, Bool.true_and] at tail ⊢
      unfold goodK noText
      by_cases k1 : e.kind = 1
      · have k2 : decide (e.kind = 2) = false := by rw [k1]; rfl
        rw [decide_eq_true k1, k2]
        simp only [Bool.not_true, cond_false, cond_true, pure_bind, Bool.true_and, Bool.false_and, Bool.or_false]
        cases goodF e.field with
        | false => rfl
        | true =>
          cases goodT e.text with
          | false => rfl
          | true => exact tail
      · rw [decide_eq_false k1]
        simp only [Bool.not_false, cond_true, pure_bind, Bool.false_and, Bool.false_or]
        by_cases k2 : e.kind = 2
        · rw [decide_eq_true k2]
          simp only [Bool.not_true, cond_false, cond_true, Bool.true_and]
          cases decide (e.field = 0) with
          | false => rfl
          | true =>
            cases decide (e.text = (⟨#[]⟩ : ByteArray)) with
            | false => rfl
            | true => exact tail
        · rw [decide_eq_false k2]; rfl


def fewE (l : List TEvent) (most : Nat) : Bool := decide (l.length ≤ most) && l.all fun e => decide (e.kills.length ≤ 300) && decide (e.text.size ≤ 200)
theorem rFew_eq (l : List TEvent) (most : Nat) (hm : most ≤ 1000000) : r13_Few l (most : Int) = pure (fewE l most) := by
  unfold r13_Few fewE
  by_cases h : l.length ≤ most
  · have hd : decide ((most : Int) < (l.length : Int)) = false := by simp; omega
    have := loopAll (body := r13_Few_l0 l) l (fun i => (i : Int)) (fun _ e => decide (e.kills.length ≤ 300) && decide (e.text.size ≤ 200)) (Ex.brk ()) (Ex.ret false) (fun i x hx hi => by
      have hd : decide ((i : Int) < (l.length : Int)) = true := by simpa using hi
      unfold r13_Few_l0
      simp only [hd, cond_true, idx_nat hx, pure_bind, wSucc (show i < 9223372036854775807 by omega)]
      by_cases c : x.kills.length ≤ 300
      · have h1 : decide ((300 : Int) < (x.kills.length : Int)) = false := by simp; omega
        rw [h1, cond_false, decide_eq_true c, Bool.true_and, pure_bind]
        by_cases c2 : x.text.size ≤ 200
        · have h2 : decide ((200 : Int) < (x.text.size : Int)) = false := by simp; omega
          rw [h2, decide_eq_true c2]; rfl
        · have h2 : decide ((200 : Int) < (x.text.size : Int)) = true := by simp; omega
          rw [h2, decide_eq_false c2]; rfl
      · have h1 : decide ((300 : Int) < (x.kills.length : Int)) = true := by simp; omega
        rw [h1, cond_true, decide_eq_false c, Bool.false_and]; rfl) (by
      unfold r13_Few_l0
      simp)
    rw [hd, cond_false, decide_eq_true h, Bool.true_and, show (0 : Int) = ((0 : Nat) : Int) from rfl, this, pure_bind, all_zip l fun e => decide (e.kills.length ≤ 300) && decide (e.text.size ≤ 200)]
    cases l.all fun e => decide (e.kills.length ≤ 300) && decide (e.text.size ≤ 200) <;> rfl
  · have hd : decide ((most : Int) < (l.length : Int)) = true := by simp; omega
    rw [hd, cond_true, decide_eq_false h, Bool.false_and]
theorem few_mem {l : List TEvent} {most : Nat} (h : fewE l most = true) : l.length ≤ most ∧ ∀ e ∈ l, e.kills.length ≤ 300 ∧ e.text.size ≤ 200 := by
  unfold fewE at h
  rw [Bool.and_eq_true, List.all_eq_true] at h
  exact ⟨by simpa using h.1, fun e he => by simpa using h.2 e he⟩
theorem rSame_eq (a b : TEvent) (h : a.kills.length ≤ 1000000000000) : r13_Same a b = pure (decide (a = b)) := by
  unfold r13_Same
  rw [D.dotEq, V.r07_Same_eq a.kills b.kills h, det_pure, pure_bind]
  have e : decide (a = b) = (decide (a.dot = b.dot) && (decide (a.kind = b.kind) && (decide (a.cid = b.cid) && (decide (a.field = b.field) && (decide (a.text = b.text) && decide (a.kills = b.kills)))))) := by
    cases a; cases b; simp only [TEvent.mk.injEq, Bool.decide_and]
  rw [e]
  cases decide (a.dot = b.dot) <;> cases decide (a.kind = b.kind) <;> cases decide (a.cid = b.cid) <;> cases decide (a.field = b.field) <;> cases decide (a.text = b.text) <;> rfl
theorem rAll_eq (a b : List TEvent) (ha : a.length ≤ 1000000000000) (hk : ∀ e ∈ a, e.kills.length ≤ 1000000000000) : r13_All a b = pure (decide (a = b)) := by
  unfold r13_All
  by_cases hlen : a.length = b.length
  · have h1 : decide ((a.length : Int) = (b.length : Int)) = true := by simp [hlen]
    rw [h1, Bool.not_true, cond_false]
    have := loopAll (body := r13_All_l0 a b) a (fun i => (i : Int)) (fun i x => decide (b[i]? = some x)) (Ex.brk ()) (Ex.ret false) (fun i x hx hi => by
      have hd : decide ((i : Int) < (a.length : Int)) = true := by simpa using hi
      obtain ⟨y, hy⟩ : ∃ y, b[i]? = some y := ⟨_, List.getElem?_eq_getElem (by omega)⟩
      unfold r13_All_l0
      simp only [hd, cond_true, idx_nat hx, idx_nat hy, pure_bind, rSame_eq x y (hk x (List.mem_of_getElem? hx)), det_pure, wSucc (show i < 9223372036854775807 by omega), hy]
      by_cases c : x = y
      · subst c; simp
      · have : ¬ some y = some x := fun e => c (Option.some.inj e).symm
        simp [c, this]) (by
      unfold r13_All_l0
      simp)
    rw [show (0 : Int) = ((0 : Nat) : Int) from rfl, this, pure_bind]
    have e : (a.zipIdx.all fun y => decide (b[y.2]? = some y.1)) = decide (a = b) := by
      rw [Bool.eq_iff_iff, List.all_eq_true, decide_eq_true_eq]
      constructor
      · intro h
        apply List.ext_getElem?
        intro i
        by_cases hi : i < a.length
        · have := h (a[i], i) (by rw [List.mk_mem_zipIdx_iff_getElem?]; exact List.getElem?_eq_getElem hi)
          simp only [decide_eq_true_eq] at this
          rw [this, List.getElem?_eq_getElem hi]
        · rw [List.getElem?_eq_none (by omega), List.getElem?_eq_none (by omega)]
      · intro h y hy
        subst h
        rw [List.mem_zipIdx_iff_getElem?] at hy
        simpa using hy
    rw [e]
    cases decide (a = b) <;> rfl
  · have h1 : decide ((a.length : Int) = (b.length : Int)) = false := by simp; omega
    have h2 : decide (a = b) = false := decide_eq_false fun e => hlen (by rw [e])
    rw [h1, Bool.not_false, cond_true, h2]

def encT (s : ByteArray) : List Int := N.encI s.size ++ bytesL s
def encE (e : TEvent) : List Int := D.encD e.dot ++ ([e.kind] ++ (N.encI e.cid ++ ([e.field] ++ (encT e.text ++ D.encDs e.kills))))
theorem encT_len {s : ByteArray} (h : s.size ≤ 1000000000) : (encT s).length ≤ 9 + s.size := by
  have := N.encI_len (v := (s.size : Int)) (by omega)
  rw [encT, List.length_append, bytes_len]; omega
theorem encE_len {e : TEvent} (h : OkE e) : (encE e).length ≤ 47 + e.text.size + 18 * e.kills.length := by
  have h1 := D.encD_len h.dot
  have h2 := N.encI_len h.cid.2
  have h3 := encT_len h.text
  have h4 := D.encDs_len h.kills (by have := h.klen; omega)
  simp only [encE, List.length_append, List.length_singleton]; omega
theorem PutText_eq {s : ByteArray} (h : s.size ≤ 1000000000) (row : List Int) (hr : row.length ≤ 1000000000000) : pack_Writer_Text_o s row = pure (row ++ encT s) := by
  have := N.encI_len (v := (s.size : Int)) (by omega)
  unfold pack_Writer_Text_o
  rw [wU64 (by omega) (by omega), N.WNum_eq row (by omega) (by omega) (by omega), det_pure, pure_bind, need_true (by omega), N.put_eq _ _ (by rw [List.length_append, bytes_len]; omega), det_pure, pure_bind, encT, List.append_assoc]
theorem rPutText_eq {s : ByteArray} (h : s.size ≤ 1000000000) (row : List Int) (hr : row.length ≤ 1000000000000) : r04_Text row s = pure (row ++ encT s) := by
  have h9 := N.encI_len (v := (s.size : Int)) (by omega)
  unfold r04_Text
  rw [wU64 (by omega) (by omega), N.rAppend_eq row (by omega) (by omega) (by omega), det_pure, pure_bind]
  have := D.loopApp (body := r04_Text_l0 s) (bytesL s) (fun x => [x]) (row ++ N.encI (s.size : Int)) 2000000000000 (fun i out => ((i : Int), out)) (fun t => pure t) (by
    have := D.flat_len (bytesL s) (fun x => [x]) 1 (by simp)
    rw [bytes_len] at this
    rw [List.length_append]; omega) (fun i x out hx hi ho => by
    have hi2 : i < s.size := by rw [← bytes_len]; exact hi
    have hd : decide ((i : Int) < (s.size : Int)) = true := by simpa using hi2
    unfold r04_Text_l0
    simp only [hd, cond_true, idx_nat hx, pure_bind]
    rw [need_true (by simp at ho ⊢; omega), wSucc (show i < 9223372036854775807 by omega)]) (fun out => by
    unfold r04_Text_l0
    simp [bytes_len, pure_bind])
  rw [show (0 : Int) = ((0 : Nat) : Int) from rfl, this, pure_bind, encT, List.append_assoc]
  have e : ∀ l : List Int, (l.flatMap fun x => [x]) = l := by
    intro l
    induction l with
    | nil => rfl
    | cons x r ih => rw [List.flatMap_cons, ih]; rfl
  rw [e]
theorem Put_eq {e : TEvent} (h : OkE e) (row : List Int) (hr : row.length ≤ 10000000000) : ecode_Put_o e row = pure (row ++ encE e) := by
  have h1 := D.encD_len h.dot
  have h2 := N.encI_len h.cid.2
  have h3 := encT_len h.text
  have ht := h.text; have hk := h.klen
  unfold ecode_Put_o
  rw [D.PutDot_eq h.dot row (by omega), det_pure, pure_bind, N.WByte_eq _ _ (by rw [List.length_append]; omega), det_pure, pure_bind, N.WNum_eq _ h.cid.1 h.cid.2 (by simp only [List.length_append, List.length_singleton]; omega), det_pure, pure_bind,
    N.WByte_eq _ _ (by simp only [List.length_append, List.length_singleton]; omega), det_pure, pure_bind, PutText_eq h.text _ (by simp only [List.length_append, List.length_singleton]; omega), det_pure, pure_bind,
    D.PutDots_eq h.kills (by omega) _ (by simp only [List.length_append, List.length_singleton]; omega), det_pure, pure_bind]
  simp only [encE, List.append_assoc]
theorem rPut_eq {e : TEvent} (h : OkE e) (row : List Int) (hr : row.length ≤ 10000000000) : r16_Put row e = pure (row ++ encE e) := by
  have h1 := D.encD_len h.dot
  have h2 := N.encI_len h.cid.2
  have h3 := encT_len h.text
  have ht := h.text; have hk := h.klen
  unfold r16_Put
  rw [D.rPutDot_eq h.dot row (by omega), det_pure, pure_bind, need_true (by simp only [List.length_append, List.length_singleton]; omega), N.rAppend_eq _ h.cid.1 h.cid.2 (by simp only [List.length_append, List.length_singleton]; omega), det_pure, pure_bind,
    need_true (by simp only [List.length_append, List.length_singleton]; omega), rPutText_eq h.text _ (by simp only [List.length_append, List.length_singleton]; omega), det_pure, pure_bind,
    D.rPutDots_eq h.kills (by omega) _ (by simp only [List.length_append, List.length_singleton]; omega), det_pure, pure_bind]
  simp only [encE, List.append_assoc]
def encEs (l : List TEvent) : List Int := N.encI l.length ++ l.flatMap encE
theorem PutAll_eq {l : List TEvent} (h : ∀ e ∈ l, OkE e) (hl : l.length ≤ 1000000000) (row : List Int) (hr : row.length + (l.flatMap encE).length ≤ 1000000000) : ecode_PutAll_o l row = pure (row ++ encEs l) := by
  have h9 := N.encI_len (v := (l.length : Int)) (by omega)
  unfold ecode_PutAll_o
  rw [wU64 (by omega) (by omega), N.WNum_eq row (by omega) (by omega) (by omega), det_pure, pure_bind]
  have := D.loopApp (body := ecode_PutAll_o_l0 l) l encE (row ++ N.encI (l.length : Int)) 2000000000 (fun i out => ((i : Int), out)) (fun t => pure t) (by rw [List.length_append]; omega) (fun i x out hx hi ho => by
    have hd : decide ((i : Int) < (l.length : Int)) = true := by simpa using hi
    unfold ecode_PutAll_o_l0
    simp only [hd, cond_true, idx_nat hx, pure_bind, Put_eq (h x (List.mem_of_getElem? hx)) out (by omega), det_pure, wSucc (show i < 9223372036854775807 by omega)]) (fun out => by
    unfold ecode_PutAll_o_l0
    simp [pure_bind])
  rw [show (0 : Int) = ((0 : Nat) : Int) from rfl, this, encEs, List.append_assoc]
theorem Encode_eq {e : TEvent} (h : OkE e) : ecode_Encode e = pure (if goodE e = true then (encE e, 0) else ([], 1)) := by
  have hl := encE_len h
  have ht := h.text; have hk := h.klen
  unfold ecode_Encode
  rw [Good_eq h, det_pure, pure_bind]
  cases goodE e with
  | false => rfl
  | true => rw [Bool.not_true, cond_false, Put_eq h [] (by simp), det_pure, pure_bind, List.nil_append, N.Bytes_eq _ (by omega), det_pure, pure_bind]; rfl
theorem equal_eq {a b : List Int} : l16_equal a b = pure (decide (strL a = strL b)) := rfl
def exE : TEvent := ⟨⟨1, 2⟩, 2, 281474976710657, 0, ⟨#[]⟩, [⟨1, 1⟩]⟩
theorem ex_ok : OkE exE := ⟨⟨by decide, by decide, by decide, by decide⟩, by decide, by decide, by decide, by decide, fun d hd => by
  rw [show exE.kills = [⟨1, 1⟩] from rfl] at hd
  rw [List.mem_singleton.1 hd]; exact ⟨by decide, by decide, by decide, by decide⟩, by decide⟩
theorem ex_good : goodE exE = true := by decide
theorem len_of {n k : Nat} (h1 : 256 ^ k ≤ n) (h2 : n < 256 ^ (k + 1)) : N.lenN n = k + 1 := by
  have := N.lenN_ge k n h1
  have := N.lenN_le (k + 1) n h2
  omega
theorem works_eq : l16_works = pure true := by
  unfold l16_works
  have e : encE exE = [1, 1, 1, 2, 2, 7, 1, 0, 0, 0, 0, 0, 1, 0, 0, 1, 1, 1, 1, 1, 1] := by
    have l1 : N.lenN 1 = 1 := len_of (k := 0) (by decide) (by decide)
    have l2 : N.lenN 2 = 1 := len_of (k := 0) (by decide) (by decide)
    have l7 : N.lenN 281474976710657 = 7 := len_of (k := 6) (by decide) (by decide)
    have e1 : N.encI 1 = [1, 1] := by show (N.lenN 1 : Int) :: N.be 1 (N.lenN 1) = _; rw [l1]; rfl
    have e2 : N.encI 2 = [1, 2] := by show (N.lenN 2 : Int) :: N.be 2 (N.lenN 2) = _; rw [l2]; rfl
    have e7 : N.encI 281474976710657 = [7, 1, 0, 0, 0, 0, 0, 1] := by show (N.lenN 281474976710657 : Int) :: N.be 281474976710657 (N.lenN 281474976710657) = _; rw [l7]; rfl
    have e0 : N.encI 0 = [0] := by show (N.lenN 0 : Int) :: N.be 0 (N.lenN 0) = _; rw [N.lenN_zero]; rfl
    have eK : D.sortD (D.goods [⟨1, 1⟩]) = [⟨1, 1⟩] := by decide
    have eT : encT ⟨#[]⟩ = [0] := by rw [encT]; show N.encI 0 ++ [] = _; rw [e0]; rfl
    have eD : D.encDs [⟨1, 1⟩] = [1, 1, 1, 1, 1, 1] := by
      rw [D.encDs, eK]
      show N.encI 1 ++ ((N.encI 1 ++ N.encI 1) ++ []) = _
      rw [e1]; rfl
    show (N.encI 1 ++ N.encI 2) ++ ([2] ++ (N.encI 281474976710657 ++ ([0] ++ (encT ⟨#[]⟩ ++ D.encDs [⟨1, 1⟩])))) = _
    rw [e1, e2, e7, eT, eD]; rfl
  have h := Encode_eq ex_ok
  rw [ex_good, if_pos rfl, e] at h
  have h' : ecode_Encode ⟨⟨1, 2⟩, 2, 281474976710657, 0, ⟨#[]⟩, [⟨1, 1⟩]⟩ = pure ([1, 1, 1, 2, 2, 7, 1, 0, 0, 0, 0, 0, 1, 0, 0, 1, 1, 1, 1, 1, 1], 0) := h
  rw [h', det_pure, pure_bind]
  simp only [decide_true, cond_true, equal_eq, det_pure, pure_bind]
theorem flatE_len {l : List TEvent} (h : ∀ e ∈ l, OkE e) (hf : ∀ e ∈ l, e.kills.length ≤ 300 ∧ e.text.size ≤ 200) : (l.flatMap encE).length ≤ 6000 * l.length :=
  D.flat_len l encE 6000 fun e he => by have := encE_len (h e he); have := hf e he; omega
open N (RS Ok numS uptoS byteS textS failS endS OkB Sim)
open D (bad4 fin)

def s1 (s : RS) : RS := (D.dotS s).2
def s2 (s : RS) : RS := (byteS (s1 s)).2
def s3 (s : RS) : RS := (numS (s2 s)).2
def s4 (s : RS) : RS := (byteS (s3 s)).2
def s5 (s : RS) : RS := (textS 60 (s4 s)).2
def s6 (s : RS) : RS := (D.dotsS 256 (s5 s)).2
def getE (s : RS) : TEvent := ⟨(D.dotS s).1, (byteS (s1 s)).1, (numS (s2 s)).1, (byteS (s3 s)).1, (textS 60 (s4 s)).1, (D.dotsS 256 (s5 s)).1⟩
def noE : TEvent := ⟨⟨0, 0⟩, 0, 0, 0, ⟨#[]⟩, []⟩
def getT (s : RS) : RS := bad4 (!goodE (getE s)) (s6 s)
def getS (s : RS) : TEvent × RS := fin noE (getE s) (getT s)
theorem text_size {s : RS} (h : Ok s) (m : Int) : (textS m s).1.size ≤ 1000000000 := by
  have h1 := (N.ok_num h).1.len
  unfold textS
  split
  · exact (by decide : (0 : Nat) ≤ 1000000000)
  · split
    · exact (by decide : (0 : Nat) ≤ 1000000000)
    · split
      · exact (by decide : (0 : Nat) ≤ 1000000000)
      · rw [strL_size, List.length_take]; omega
theorem dots_okD {s : RS} (h : Ok s) (most : Int) : (∀ d ∈ (D.dotsS most s).1, D.OkD d) ∧ (D.dotsS most s).1.length ≤ 1000000000 := by
  by_cases c : (D.dotsS most s).2.2 = 0
  · obtain ⟨e1, e2, e3, e4⟩ := D.dots_inv h c
    have hl := congrArg List.length e1
    have hs := h.len
    have h9 : (D.sortD (D.goods (D.dotsS most s).1)) = (D.dotsS most s).1 := D.good_self e2 fun d hd => (e3 d hd).1
    have h8 : ∀ l : List TDot, l.length ≤ (l.flatMap D.encD).length := by
      intro l
      induction l with
      | nil => simp
      | cons x t ih =>
        have : 1 ≤ (D.encD x).length := by rw [D.encD, List.length_append, N.encI, N.encN, List.length_cons]; omega
        rw [List.flatMap_cons, List.length_append, List.length_cons]; omega
    have h7 := h8 (D.dotsS most s).1
    refine ⟨fun d hd => (e3 d hd).2, ?_⟩
    rw [List.length_append, D.encDs, h9, List.length_append] at hl
    omega
  · rw [D.dots_bad c]; simp
theorem ok_get {s : RS} (h : Ok s) : Ok (s1 s) ∧ Ok (s2 s) ∧ Ok (s3 s) ∧ Ok (s4 s) ∧ Ok (s5 s) ∧ Ok (s6 s) ∧ OkE (getE s) := by
  have o1 : Ok (s1 s) := (D.ok_dot h).1
  have o2 := N.ok_byte o1
  have o3 := N.ok_num (s := s2 s) o2.1
  have o4 := N.ok_byte (s := s3 s) o3.1
  have o5 := N.ok_text (s := s4 s) o4.1 60
  have o6 := D.ok_dots (s := s5 s) o5 256
  obtain ⟨k1, k2⟩ := dots_okD (s := s5 s) o5 256
  exact ⟨o1, o2.1, o3.1, o4.1, o5, o6, (D.ok_dot h).2.1, o2.2, o3.2, o4.2, text_size (s := s4 s) o4.1 60, k1, k2⟩
theorem Get_eq {s : RS} (h : Ok s) : ecode_Get_o s.1 s.2 = pure (getS s) := by
  obtain ⟨o1, o2, o3, o4, o5, o6, oe⟩ := ok_get h
  unfold ecode_Get_o getS
  have e1 : dcode_Dot_o s.1 s.2 = pure ((D.dotS s).1, s1 s) := D.Dot_eq h
  have e2 : pack_Reader_Byte_o (s1 s).1 (s1 s).2 = pure ((byteS (s1 s)).1, s2 s) := N.Byte_eqS o1
  have e3 : pack_Reader_Num_o (s2 s).1 (s2 s).2 = pure ((numS (s2 s)).1, s3 s) := N.Num_eq o2
  have e4 : pack_Reader_Byte_o (s3 s).1 (s3 s).2 = pure ((byteS (s3 s)).1, s4 s) := N.Byte_eqS o3
  have e5 : pack_Reader_Text_o 60 (s4 s).1 (s4 s).2 = pure ((textS 60 (s4 s)).1, s5 s) := N.Text_eq o4 (by decide)
  have e6 : dcode_Dots_o 256 (s5 s).1 (s5 s).2 = pure ((D.dotsS 256 (s5 s)).1, s6 s) := D.Dots_eq o5 (by decide)
  rw [e1, det_pure, pure_bind]
  simp only []
  rw [e2, det_pure, pure_bind]
  simp only []
  rw [e3, det_pure, pure_bind]
  simp only []
  rw [e4, det_pure, pure_bind]
  simp only []
  rw [e5, det_pure, pure_bind]
  simp only []
  rw [e6, det_pure, pure_bind]
  simp only []
  have eg := Good_eq oe
  unfold getE at eg
  rw [eg, det_pure, pure_bind]
  have ep := D.pbad_neg (goodE (getE s)) (s6 s)
  unfold getE at ep
  rw [ep, pure_bind]
  exact D.pfin_eq _ _ _
variable {B : List Int} {a : Int} {s : RS}
theorem byte_ok {s : RS} (h : (byteS s).2.2 = 0) : s.2 = 0 ∧ s.1 = (byteS s).1 :: (byteS s).2.1 := by
  unfold byteS at h ⊢
  by_cases c : s.2 ≠ 0
  · rw [if_pos c] at h; exact absurd h c
  · rw [if_neg c] at h ⊢
    cases hs : s.1 with
    | nil => rw [hs] at h; exact absurd h (N.fail_bad (by decide))
    | cons x r => exact ⟨Classical.byContradiction c, rfl⟩
theorem text_ok {m : Int} {s : RS} (hO : Ok s) (h : (textS m s).2.2 = 0) : (numS s).2.2 = 0 ∧ s.1 = encT (textS m s).1 ++ (textS m s).2.1 ∧ ((textS m s).1.size : Int) ≤ max m 0 := by
  obtain ⟨k1, k2, k3⟩ := N.ok_num hO
  unfold textS at h ⊢
  by_cases c : (numS s).2.2 ≠ 0
  · rw [if_pos c] at h; exact absurd h c
  · rw [if_neg c] at h ⊢
    by_cases c2 : max m 0 < (numS s).1
    · rw [if_pos c2] at h; exact absurd h (N.fail_bad (by decide))
    · rw [if_neg c2] at h ⊢
      by_cases c3 : ((numS s).2.1.length : Int) < (numS s).1
      · rw [if_pos c3] at h; exact absurd h (N.fail_bad (by decide))
      · rw [if_neg c3]
        have hz : (numS s).2.2 = 0 := Classical.byContradiction c
        refine ⟨hz, ?_, ?_⟩
        · show s.1 = (N.encI ((strL _).size : Int) ++ bytesL (strL _)) ++ _
          rw [strL_size, bytes_strL (k1.by_.take _), List.length_take, show ((min (numS s).1.toNat (numS s).2.1.length : Nat) : Int) = (numS s).1 by omega, List.append_assoc, List.take_append_drop]
          exact D.num_inv hO hz
        · show ((strL _).size : Int) ≤ _
          rw [strL_size, List.length_take]; omega
theorem get_inv {s : RS} (hO : Ok s) (h : (getS s).2.2 = 0) : s.2 = 0 ∧ goodE (getS s).1 = true ∧ OkE (getS s).1 ∧ s.1 = encE (getS s).1 ++ (getS s).2.1 := by
  obtain ⟨o1, o2, o3, o4, o5, o6, oe⟩ := ok_get hO
  unfold getS at h ⊢
  rw [D.fin_st] at h
  rw [D.fin_ok h]
  obtain ⟨g1, g2, g3⟩ := D.bad4_ok (c := !goodE (getE s)) (s := s6 s) h
  have i6 := D.dots_inv o5 g2
  have z5 : (s5 s).2 = 0 := Classical.byContradiction fun c => by
    have : (D.dotsS 256 (s5 s)).2.2 ≠ 0 := by
      have hn := N.num_of c
      unfold D.dotsS
      rw [hn]
      rw [if_neg (by show ¬ max 256 0 < (0 : Int); omega)]
      exact c
    exact this g2
  obtain ⟨z5', i5, _⟩ := text_ok (m := 60) o4 z5
  have z4 := D.num_ok z5'
  obtain ⟨z3, i4⟩ := byte_ok (s := s3 s) z4
  have i3 := D.num_inv o2 z3
  have z2 := D.num_ok z3
  obtain ⟨z1, i2⟩ := byte_ok (s := s1 s) z2
  have i1 := D.dot_inv hO z1
  have z0 : s.2 = 0 := D.num_ok (D.upto_ok (D.dot_ok z1).2.1).1
  refine ⟨z0, by simpa using g1, oe, ?_⟩
  show s.1 = encE (getE s) ++ (getT s).1
  rw [show getT s = s6 s from g3]
  show s.1 = (D.encD (D.dotS s).1 ++ ([(byteS (s1 s)).1] ++ (N.encI (numS (s2 s)).1 ++ ([(byteS (s3 s)).1] ++ (encT (textS 60 (s4 s)).1 ++ D.encDs (D.dotsS 256 (s5 s)).1))))) ++ (s6 s).1
  simp only [List.append_assoc]
  have j6 : (s5 s).1 = D.encDs (D.dotsS 256 (s5 s)).1 ++ (s6 s).1 := i6.1
  have j5 : (s4 s).1 = encT (textS 60 (s4 s)).1 ++ (s5 s).1 := i5
  have j4 : (s3 s).1 = [(byteS (s3 s)).1] ++ (s4 s).1 := i4
  have j3 : (s2 s).1 = N.encI (numS (s2 s)).1 ++ (s3 s).1 := i3
  have j2 : (s1 s).1 = [(byteS (s1 s)).1] ++ (s2 s).1 := i2
  have j1 : s.1 = D.encD (D.dotS s).1 ++ (s1 s).1 := i1
  rw [← j6, ← j5, ← j4, ← j3, ← j2]
  exact j1
theorem get_lt {s : RS} (hO : Ok s) (h : (getS s).2.2 = 0) : (getS s).2.1.length + 1 ≤ s.1.length := by
  have := (get_inv hO h).2.2.2
  have hl := congrArg List.length this
  have : 1 ≤ (encE (getS s).1).length := by simp only [encE, List.length_append, List.length_singleton]; omega
  rw [List.length_append] at hl; omega

theorem byte_enc (x : Int) (r : List Int) : byteS (x :: r, 0) = (x, (r, 0)) := rfl
theorem text_enc {t : ByteArray} {m : Int} (h : (t.size : Int) ≤ m) (hs : t.size ≤ 1000000000000) (r : List Int) : textS m (encT t ++ r, 0) = (t, (r, 0)) := by
  have e : encT t ++ r = N.encI (t.size : Int) ++ (bytesL t ++ r) := by rw [encT, List.append_assoc]
  have e1 := D.num_enc (v := (t.size : Int)) (by omega) (by omega) (bytesL t ++ r)
  unfold textS
  rw [e, e1]
  have hl := bytes_len t
  simp only [ne_eq, not_true_eq_false, if_false, Int.toNat_natCast]
  rw [if_neg (by omega), if_neg (by rw [List.length_append]; omega), List.take_append_of_le_length (by omega), List.drop_append_of_le_length (by omega), List.take_of_length_le (by omega), List.drop_eq_nil_of_le (by omega), strL_bytes]
  rfl
theorem good_parts {e : TEvent} (h : goodE e = true) : V.goodD e.dot = true ∧ goodK e = true ∧ e.kills.length ≤ 256 ∧ D.Srt e.kills ∧ (∀ d ∈ e.kills, V.goodD d = true) ∧ e.text.size ≤ 60 := by
  unfold goodE goodL at h
  simp only [Bool.and_eq_true, decide_eq_true_eq, List.all_eq_true] at h
  obtain ⟨⟨h1, h2⟩, h3, h4, h5, h6⟩ := h
  refine ⟨h2, h3, h4, D.rise_iff.1 h5, fun d hd => (h6 d hd).1, ?_⟩
  unfold goodK goodT noText at h3
  simp only [Bool.or_eq_true, Bool.and_eq_true, decide_eq_true_eq] at h3
  rcases h3 with ⟨_, _, h, _⟩ | ⟨_, _, h⟩
  · exact h
  · rw [h]; decide
theorem get_enc {e : TEvent} (h : OkE e) (hg : goodE e = true) (r : List Int) : getS (encE e ++ r, 0) = (e, (r, 0)) := by
  obtain ⟨g1, g2, g3, g4, g5, g6⟩ := good_parts hg
  have q : encE e ++ r = D.encD e.dot ++ (e.kind :: (N.encI e.cid ++ (e.field :: (encT e.text ++ (D.encDs e.kills ++ r))))) := by
    simp only [encE, List.append_assoc, List.cons_append, List.nil_append]
  have c1 := D.dot_enc h.dot g1 (e.kind :: (N.encI e.cid ++ (e.field :: (encT e.text ++ (D.encDs e.kills ++ r)))))
  have c3 := D.num_enc h.cid.1 h.cid.2 (e.field :: (encT e.text ++ (D.encDs e.kills ++ r)))
  have c5 := text_enc (t := e.text) (m := 60) (by omega) (by omega) (D.encDs e.kills ++ r)
  have c6 := D.dots_enc g4 (fun d hd => ⟨h.kills d hd, g5 d hd⟩) (most := 256) (by omega) (by omega) r
  have t1 : s1 (encE e ++ r, 0) = (e.kind :: (N.encI e.cid ++ (e.field :: (encT e.text ++ (D.encDs e.kills ++ r)))), 0) := by unfold s1; rw [q, c1]
  have t2 : s2 (encE e ++ r, 0) = (N.encI e.cid ++ (e.field :: (encT e.text ++ (D.encDs e.kills ++ r))), 0) := by unfold s2; rw [t1, byte_enc]
  have t3 : s3 (encE e ++ r, 0) = (e.field :: (encT e.text ++ (D.encDs e.kills ++ r)), 0) := by unfold s3; rw [t2, c3]
  have t4 : s4 (encE e ++ r, 0) = (encT e.text ++ (D.encDs e.kills ++ r), 0) := by unfold s4; rw [t3, byte_enc]
  have t5 : s5 (encE e ++ r, 0) = (D.encDs e.kills ++ r, 0) := by unfold s5; rw [t4, c5]
  have t6 : s6 (encE e ++ r, 0) = (r, 0) := by unfold s6; rw [t5, c6]
  have tE : getE (encE e ++ r, 0) = e := by
    unfold getE
    rw [t1, t2, t3, t4, t5, q, c1, byte_enc, c3, byte_enc, c5, c6]
  unfold getS getT
  rw [tE, t6, hg, Bool.not_true, D.bad4_false]
  rfl

open N (RS Ok numS uptoS byteS textS failS endS OkB Sim)
open D (bad4 fin)

def lastGeE (out : List TEvent) (x : TEvent) : Bool := match out.getLast? with | some y => decide (0 ≤ V.cmpD y.dot x.dot) | none => false
def allT (out : List TEvent) (s : RS) : RS := bad4 (lastGeE out (getS s).1) (getS s).2
def allL : Nat → List TEvent → RS → List TEvent × RS
  | 0, out, s => (out, s)
  | k + 1, out, s => if (allT out s).2 ≠ 0 then ([], allT out s) else allL k (out ++ [(getS s).1]) (allT out s)
def allS (most : Int) (s : RS) : List TEvent × RS := if max most 0 < (numS s).1 then ([], failS 3 (numS s).2) else allL (numS s).1.toNat [] (numS s).2
theorem allL_bad {k : Nat} {out : List TEvent} {s : RS} (h : (allT out s).2 ≠ 0) : allL (k + 1) out s = ([], allT out s) := if_pos h
theorem allL_next {k : Nat} {out : List TEvent} {s : RS} (h : (allT out s).2 = 0) : allL (k + 1) out s = allL k (out ++ [(getS s).1]) (allT out s) := if_neg (by simp [h])
theorem allT_ok {out : List TEvent} {s : RS} (h : (allT out s).2 = 0) : lastGeE out (getS s).1 = false ∧ (getS s).2.2 = 0 ∧ allT out s = (getS s).2 := D.bad4_ok h
theorem ok_gets {s : RS} (h : Ok s) : Ok (getS s).2 := by
  unfold getS; rw [D.fin_st]; exact D.ok_bad4 (ok_get h).2.2.2.2.2.1 _
theorem ok_allT {s : RS} (h : Ok s) (out : List TEvent) : Ok (allT out s) := D.ok_bad4 (ok_gets h) _
theorem last_idxE {out : List TEvent} (h : out.length ≤ 1000000000000) (x : TEvent) (cmp : TDot → TDot → M Int) (hc : ∀ y, cmp y x.dot = pure (V.cmpD y x.dot)) :
    ((cond (decide (0 ≤ IntKind.i64.wrap ((out.length : Int) - 1))) ((idx out (IntKind.i64.wrap ((out.length : Int) - 1))).bind fun x61 => (det (cmp x61.dot x.dot)).bind fun v63 => pure (decide (0 ≤ v63))) (pure false)) : M Bool) = pure (lastGeE out x) := by
  unfold lastGeE
  rcases R.snoc_cases out with rfl | ⟨r, y, rfl⟩
  · rfl
  · have hl : ((r ++ [y]).length : Int) - 1 = (r.length : Int) := by simp
    rw [hl, wI64 (by omega) (by simp at h; omega)]
    have : decide ((0 : Int) ≤ (r.length : Int)) = true := by simp
    rw [this, cond_true, idx_nat (y := y) (by simp), pure_bind, hc, det_pure, pure_bind]
    simp
theorem all_loop {y4 : Int × List Int × Int} (hn : 0 ≤ y4.1 ∧ y4.1 ≤ 18446744073709551615) : ∀ (k i : Nat) (out : List TEvent) (s : RS), (i : Int) + k = y4.1 → Ok s → s.2 = 0 → out.length + s.1.length ≤ 1000000000 →
    (loop (ecode_GetAll_o_l0 y4) ((i : Int), out, s.1, s.2)).bind (exk fun ⟨out9, v10, v11⟩ => pure (out9, v10, v11)) = pure (allL k out s)
  | 0, i, out, s, hi, _, _, _ => by
    rw [loop_done (r := .brk (out, s.1, s.2)) (by
      unfold ecode_GetAll_o_l0
      have : decide ((i : Int) < y4.1) = false := by simp; omega
      simp only [this, cond_false])]
    rfl
  | k + 1, i, out, s, hi, hO, h0, hl => by
    have hc : decide ((i : Int) < y4.1) = true := by simp; omega
    have hlast := last_idxE (out := out) (by omega) (getS s).1 dot_Cmp (fun y => D.Cmp_eq y _)
    have hw : IntKind.u64.wrap ((i : Int) + 1) = ((i + 1 : Nat) : Int) := by rw [wU64 (by omega) (by omega)]; omega
    have hb : ecode_GetAll_o_l0 y4 ((i : Int), out, s.1, s.2) = (det (pack_Reader_Err_o (allT out s).1 (allT out s).2)).bind fun y70 => cond (!decide (y70.1 = 0)) (pure (.done (.ret ([], y70.2.1, y70.2.2)))) (need ((out.length + [(getS s).1].length) * 80 ≤ 140737488355328) (pure (.next (IntKind.u64.wrap ((i : Int) + 1), out ++ [(getS s).1], y70.2.1, y70.2.2)))) := by
      unfold ecode_GetAll_o_l0
      have e := D.pbad_eq (lastGeE out (getS s).1) (getS s).2
      simp only [hc, cond_true, Get_eq hO, det_pure, pure_bind]
      rw [hlast, pure_bind, e, pure_bind]
      rfl
    rw [N.Err_eq, det_pure, pure_bind] at hb
    by_cases c : (allT out s).2 = 0
    · obtain ⟨_, c2, c3⟩ := allT_ok c
      have hlt := get_lt hO c2
      rw [decide_eq_true c, Bool.not_true, cond_false, need_true (by simp; omega), hw] at hb
      rw [loop_next hb, allL_next c]
      exact all_loop hn k (i + 1) _ (allT out s) (by omega) (ok_allT hO out) c (by rw [c3]; simp; omega)
    · rw [decide_eq_false c, Bool.not_false, cond_true] at hb
      rw [loop_done hb, allL_bad c]
      rfl
theorem GetAll_eq {s : RS} (hO : Ok s) {most : Int} (hm : most ≤ 9223372036854775807) : ecode_GetAll_o most s.1 s.2 = pure (allS most s) := by
  obtain ⟨h1, h2, h3⟩ := N.ok_num hO
  unfold ecode_GetAll_o allS
  rw [N.Num_eq hO, det_pure, pure_bind, wU64 (n := max most 0) (by omega) (by omega)]
  by_cases c : max most 0 < (numS s).1
  · rw [decide_eq_true c, cond_true, if_pos c, N.Fail_eq 3 (numS s).2, det_pure, pure_bind]
  · rw [decide_eq_false c, cond_false, if_neg c]
    by_cases c2 : (numS s).2.2 = 0
    · exact all_loop (y4 := numS s) ⟨h2, h3⟩ (numS s).1.toNat 0 [] (numS s).2 (by omega) h1 c2 (by simp; have := h1.len; omega)
    · have hz := D.num_zero c2
      rw [hz, loop_done (r := .brk ([], (numS s).2.1, (numS s).2.2)) (by
        unfold ecode_GetAll_o_l0
        simp only [hz, show decide ((0 : Int) < 0) = false from rfl, cond_false])]
      rfl
variable {B : List Int} {a : Int} {s : RS}
/-- What is read is good, in order. -/
abbrev SrtE (l : List TEvent) : Prop := l.Pairwise fun x y => ltDot x.dot y.dot = true
theorem allL_enc : ∀ (l out : List TEvent) (r : List Int), SrtE (out ++ l) → (∀ e ∈ l, OkE e ∧ goodE e = true) → allL l.length out (l.flatMap encE ++ r, 0) = (out ++ l, (r, 0))
  | [], out, r, _, _ => by simp [allL]
  | x :: t, out, r, hs, h => by
    have hx := h x (by simp)
    have e : getS ((x :: t).flatMap encE ++ r, 0) = (x, (t.flatMap encE ++ r, 0)) := by
      rw [List.flatMap_cons, List.append_assoc]; exact get_enc hx.1 hx.2 _
    have hlast : lastGeE out x = false := by
      unfold lastGeE
      cases hl : out.getLast? with
      | none => rfl
      | some y =>
        have := (List.pairwise_append.1 hs).2.2 y (List.mem_of_getLast? hl) x (by simp)
        simp only [D.cmp_ge, this, Bool.not_true]
    have hT : allT out ((x :: t).flatMap encE ++ r, 0) = (t.flatMap encE ++ r, 0) := by
      unfold allT
      rw [e]
      simp only []
      rw [hlast]
      rfl
    rw [List.length_cons, allL_next (by rw [hT]), hT, e]
    simp only []
    rw [allL_enc t (out ++ [x]) r (by rw [List.append_assoc]; exact hs) (fun d hd => h d (by simp [hd])), List.append_assoc]
    rfl
theorem all_enc {l : List TEvent} (hs : SrtE l) (h : ∀ e ∈ l, OkE e ∧ goodE e = true) {most : Int} (hm : (l.length : Int) ≤ most) (hl : l.length ≤ 1000000000000) (r : List Int) : allS most (encEs l ++ r, 0) = (l, (r, 0)) := by
  have e2 : encEs l ++ r = N.encI (l.length : Int) ++ (l.flatMap encE ++ r) := by rw [encEs, List.append_assoc]
  unfold allS
  rw [e2, D.num_enc (by omega) (by omega)]
  simp only []
  rw [if_neg (by omega), Int.toNat_natCast, allL_enc l [] r (by simpa using hs) h]
  rfl

def decE (b : List Int) : TEvent × Int := if (endS (getS (b, 0)).2).1 ≠ 0 then (noE, (endS (getS (b, 0)).2).1) else ((getS (b, 0)).1, 0)
theorem Decode_eq {b : List Int} (hB : OkB b) : ecode_Decode b = pure (decE b) := by
  unfold ecode_Decode decE
  rw [N.New_eq b hB.len, det_pure, pure_bind, Get_eq hB.ok, det_pure, pure_bind, N.End_eq, det_pure, pure_bind]
  by_cases c : (endS (getS (b, 0)).2).1 = 0
  · rw [decide_eq_true c, Bool.not_true, cond_false, if_neg (by simp [c])]
  · rw [decide_eq_false c, Bool.not_false, cond_true, if_pos c]; rfl
theorem okE_none : OkE noE := ⟨⟨by decide, by decide, by decide, by decide⟩, by decide, by decide, by decide, by decide, (fun d hd => by cases hd), by decide⟩
theorem get_okE {s : RS} (hO : Ok s) : OkE (getS s).1 := by
  unfold getS
  by_cases c : (getT s).2 = 0
  · rw [D.fin_ok c]; exact (ok_get hO).2.2.2.2.2.2
  · rw [D.fin_bad c]; exact okE_none
theorem decE_okE {b : List Int} (hB : OkB b) : OkE (decE b).1 := by
  unfold decE
  split
  · exact okE_none
  · exact get_okE hB.ok
theorem decE_inv {b : List Int} (hB : OkB b) (h : (decE b).2 = 0) : b = encE (decE b).1 ∧ goodE (decE b).1 = true := by
  unfold decE at h ⊢
  by_cases c : (endS (getS (b, 0)).2).1 = 0
  · rw [if_neg (by simp [c])]
    obtain ⟨e1, e2⟩ := D.end_ok c
    obtain ⟨_, i2, _, i4⟩ := get_inv hB.ok e2
    rw [e1, List.append_nil] at i4
    exact ⟨i4, i2⟩
  · rw [if_pos c] at h; exact absurd h c
theorem rPutE_eq (s : List TEvent) (e : TEvent) (hs : SrtE s) (hl : s.length ≤ 1000000000000) (hp : ∀ x ∈ s, goodE x = true ∧ OkE x) (he : goodE e = true ∧ OkE e) :
    ∃ t, r13_Put s e = pure t ∧ SrtE t ∧ (∀ x ∈ t, x ∈ s ∨ x = e) ∧ t.length ≤ s.length + 1 := by
  unfold r13_Put
  -- what was gone over stands in front; 'done': the event stands among it
  have key : ∀ (k i : Nat) (dn : Bool) (out : List TEvent), i + k = s.length → out.length ≤ i + 1 → SrtE out → (∀ x ∈ out, x ∈ s ∨ x = e) → (dn = false → out = s.take i ∧ ∀ x ∈ out, ltDot x.dot e.dot = true) → (dn = true → ∀ (j : Nat) (y : TEvent), i ≤ j → s[j]? = some y → ltDot e.dot y.dot = true ∧ ∀ x ∈ out, ltDot x.dot y.dot = true) →
      ∃ t, (loop (r13_Put_l0 s e) (dn, (i : Int), out)).bind (exk fun ⟨done3, out4⟩ => (cond (!done3) (need ((out4.length + [e].length) * 80 ≤ 140737488355328) (pure (out4 ++ [e]))) (pure out4)).bind fun out56 => pure out56) = pure t ∧ SrtE t ∧ (∀ x ∈ t, x ∈ s ∨ x = e) ∧ t.length ≤ s.length + 1 := by
    intro k
    induction k with
    | zero =>
      intro i dn out hi hol hso hm h1 _
      rw [loop_done (r := .brk (dn, out)) (by
        unfold r13_Put_l0
        have : decide ((i : Int) < (s.length : Int)) = false := by simp; omega
        simp only [this, cond_false])]
      cases dn with
      | true => exact ⟨out, rfl, hso, hm, by omega⟩
      | false =>
        obtain ⟨h2, h3⟩ := h1 rfl
        refine ⟨out ++ [e], ?_, ?_, fun x hx => ?_, ?_⟩
        · rw [pure_bind, exk_brk]
          simp only [Bool.not_false, cond_true]
          rw [need_true (by simp; omega)]; rfl
        · unfold SrtE
          rw [List.pairwise_append]
          exact ⟨hso, by simp, fun a ha b hb => by rw [List.mem_singleton.1 hb]; exact h3 a ha⟩
        · rcases List.mem_append.1 hx with h | h
          · exact hm x h
          · exact .inr (List.mem_singleton.1 h)
        · rw [h2, List.length_append, List.length_take, List.length_singleton]; omega
    | succ k ih =>
      intro i dn out hi hol hso hm h1 h4
      obtain ⟨x, hx⟩ : ∃ x, s[i]? = some x := ⟨_, List.getElem?_eq_getElem (by omega)⟩
      have hxm := List.mem_of_getElem? hx
      have hc : decide ((i : Int) < (s.length : Int)) = true := by simp; omega
      by_cases c0 : x.dot = e.dot
      · have hz : V.cmpD x.dot e.dot = 0 := by unfold V.cmpD; rw [if_pos c0]
        rw [loop_done (r := .ret s) (by
          unfold r13_Put_l0
          simp only [hc, cond_true, idx_nat hx, pure_bind, V.r07_Cmp_eq, det_pure, hz, decide_true])]
        exact ⟨s, rfl, hs, fun y hy => .inl hy, by omega⟩
      · have hz : V.cmpD x.dot e.dot ≠ 0 := by
          unfold V.cmpD; rw [if_neg c0]; split <;> decide
        have hpos : decide (0 < V.cmpD x.dot e.dot) = !ltDot x.dot e.dot := by
          by_cases c1 : ltDot x.dot e.dot = true
          · have := V.cmpD_neg.2 c1
            rw [c1]; simp; omega
          · have h2 : ¬ V.cmpD x.dot e.dot < 0 := fun h => c1 (V.cmpD_neg.1 h)
            simp only [Bool.not_eq_true] at c1
            rw [c1]; simp; omega
        have hb : r13_Put_l0 s e (dn, (i : Int), out) = pure (.next ((dn || !ltDot x.dot e.dot), ((i + 1 : Nat) : Int), (if (!ltDot x.dot e.dot && !dn) = true then out ++ [e] else out) ++ [x])) := by
          unfold r13_Put_l0
          simp only [hc, cond_true, idx_nat hx, pure_bind, V.r07_Cmp_eq, det_pure, decide_eq_false hz, cond_false, hpos]
          cases ltDot x.dot e.dot <;> cases dn <;> simp only [Bool.not_true, Bool.not_false, cond_true, cond_false, pure_bind, Bool.and_true, Bool.and_false, Bool.or_true, Bool.or_false, Bool.false_eq_true, if_true, if_false]
          · rw [need_true (by simp; omega), pure_bind]
            simp only []
            rw [need_true (by simp; omega), wSucc (show i < 9223372036854775807 by omega)]
          · rw [need_true (by simp; omega), wSucc (show i < 9223372036854775807 by omega)]
          · rw [need_true (by simp; omega), wSucc (show i < 9223372036854775807 by omega)]
          · rw [need_true (by simp; omega), wSucc (show i < 9223372036854775807 by omega)]
        rw [loop_next hb]
        have hafter : ∀ (j : Nat) (y : TEvent), i + 1 ≤ j → s[j]? = some y → ltDot x.dot y.dot = true := fun j y hj hy => by
          have hlt : j < s.length := (List.getElem?_eq_some_iff.1 hy).1
          have := List.pairwise_iff_getElem.1 hs i j (by omega) hlt (by omega)
          rw [(List.getElem?_eq_some_iff.1 hx).2, (List.getElem?_eq_some_iff.1 hy).2] at this
          exact this
        have htake : s.take (i + 1) = s.take i ++ [x] := by rw [List.take_add_one, hx]; rfl
        cases hdn : dn with
        | true =>
          subst hdn
          have h5 := h4 rfl
          simp only [Bool.true_or, Bool.not_true, Bool.and_false, Bool.false_eq_true, if_false]
          refine ih (i + 1) true (out ++ [x]) (by omega) (by simp; omega) ?_ (fun y hy => ?_) (fun h => by cases h) fun _ j y hj hy => ?_
          · unfold SrtE
            rw [List.pairwise_append]
            exact ⟨hso, by simp, fun a ha b hb => by rw [List.mem_singleton.1 hb]; exact (h5 i x (Nat.le_refl _) hx).2 a ha⟩
          · rcases List.mem_append.1 hy with h | h
            · exact hm y h
            · rw [List.mem_singleton.1 h]; exact .inl hxm
          · refine ⟨(h5 j y (by omega) hy).1, fun z hz2 => ?_⟩
            rcases List.mem_append.1 hz2 with h | h
            · exact (h5 j y (by omega) hy).2 z h
            · rw [List.mem_singleton.1 h]; exact hafter j y hj hy
        | false =>
          subst hdn
          obtain ⟨h2, h3⟩ := h1 rfl
          cases hlt : ltDot x.dot e.dot with
          | true =>
            simp only [Bool.not_true, Bool.or_false, Bool.false_and, Bool.false_eq_true, if_false]
            refine ih (i + 1) false (out ++ [x]) (by omega) (by simp; omega) ?_ (fun y hy => ?_) (fun _ => ⟨by rw [h2, htake], fun y hy => ?_⟩) fun h => by cases h
            · rw [h2, ← htake]; exact hs.sublist (List.take_sublist _ _)
            · rcases List.mem_append.1 hy with h | h
              · exact hm y h
              · rw [List.mem_singleton.1 h]; exact .inl hxm
            · rcases List.mem_append.1 hy with h | h
              · exact h3 y h
              · rw [List.mem_singleton.1 h]; exact hlt
          | false =>
            have hgt : ltDot e.dot x.dot = true := by
              cases hh : ltDot e.dot x.dot with
              | true => rfl
              | false => exact absurd (D.lt_tri hlt hh) c0
            simp only [Bool.not_false, Bool.or_true, Bool.and_self, if_true]
            have hso2 : SrtE (out ++ [e] ++ [x]) := by
              unfold SrtE
              rw [List.pairwise_append, List.pairwise_append]
              refine ⟨⟨hso, by simp, fun a ha b hb => by rw [List.mem_singleton.1 hb]; exact h3 a ha⟩, by simp, fun a ha b hb => ?_⟩
              rw [List.mem_singleton.1 hb]
              rcases List.mem_append.1 ha with h | h
              · exact D.lt_trans (h3 a h) hgt
              · rw [List.mem_singleton.1 h]; exact hgt
            refine ih (i + 1) true (out ++ [e] ++ [x]) (by omega) (by rw [h2]; simp; omega) hso2 (fun y hy => ?_) (fun h => by cases h) fun _ j y hj hy => ?_
            · rcases List.mem_append.1 hy with h | h
              · rcases List.mem_append.1 h with h | h
                · exact hm y h
                · exact .inr (List.mem_singleton.1 h)
              · rw [List.mem_singleton.1 h]; exact .inl hxm
            · have h6 := hafter j y hj hy
              refine ⟨D.lt_trans hgt h6, fun z hz2 => ?_⟩
              rcases List.mem_append.1 hz2 with h | h
              · rcases List.mem_append.1 h with h | h
                · exact D.lt_trans (h3 z h) (D.lt_trans hgt h6)
                · rw [List.mem_singleton.1 h]; exact D.lt_trans hgt h6
              · rw [List.mem_singleton.1 h]; exact h6
  obtain ⟨t, h1, h2, h3, h4⟩ := key s.length 0 false [] (by omega) (by simp) List.Pairwise.nil (by simp) (fun _ => ⟨by simp, by simp⟩) (fun h => by cases h)
  exact ⟨t, h1, h2, h3, h4⟩
theorem some_loop (l : List TEvent) (ho : ∀ e ∈ l, OkE e) (hl : l.length ≤ 1000000) : ∃ t, loop (l16_EcodeBack_l0 l) ([], 0) = pure t ∧ SrtE t ∧ (∀ x ∈ t, x ∈ l ∧ goodE x = true) ∧ t.length ≤ l.length := by
  have key : ∀ (k i : Nat) (some_ : List TEvent), i + k = l.length → some_.length ≤ i → SrtE some_ → (∀ x ∈ some_, x ∈ l ∧ goodE x = true) → ∃ t, loop (l16_EcodeBack_l0 l) (some_, (i : Int)) = pure t ∧ SrtE t ∧ (∀ x ∈ t, x ∈ l ∧ goodE x = true) ∧ t.length ≤ l.length := by
    intro k
    induction k with
    | zero =>
      intro i so hi hsl hs hm
      refine ⟨so, loop_done ?_, hs, hm, by omega⟩
      unfold l16_EcodeBack_l0
      have : decide ((i : Int) < (l.length : Int)) = false := by simp; omega
      simp only [this, cond_false]
    | succ k ih =>
      intro i so hi hsl hs hm
      obtain ⟨x, hx⟩ : ∃ x, l[i]? = some x := ⟨_, List.getElem?_eq_getElem (by omega)⟩
      have hxm := List.mem_of_getElem? hx
      have hc : decide ((i : Int) < (l.length : Int)) = true := by simp; omega
      cases hg : goodE x with
      | false =>
        rw [loop_next (s' := (so, ((i + 1 : Nat) : Int))) (by
          unfold l16_EcodeBack_l0
          simp only [hc, cond_true, idx_nat hx, pure_bind, rGood_eq (ho x hxm), det_pure, hg, cond_false, wSucc (show i < 9223372036854775807 by omega)])]
        exact ih (i + 1) so (by omega) (by omega) hs hm
      | true =>
        obtain ⟨t, e1, e2, e3, e4⟩ := rPutE_eq so x hs (by omega) (fun y hy => ⟨(hm y hy).2, ho y (hm y hy).1⟩) ⟨hg, ho x hxm⟩
        rw [loop_next (s' := (t, ((i + 1 : Nat) : Int))) (by
          unfold l16_EcodeBack_l0
          simp only [hc, cond_true, idx_nat hx, pure_bind, rGood_eq (ho x hxm), det_pure, hg, e1, wSucc (show i < 9223372036854775807 by omega)])]
        refine ih (i + 1) t (by omega) (by omega) e2 fun y hy => ?_
        rcases e3 y hy with h | h
        · exact hm y h
        · rw [h]; exact ⟨hxm, hg⟩
  exact key l.length 0 [] (by omega) (by simp) List.Pairwise.nil (by simp)
theorem by_encEs {l : List TEvent} (h : ∀ e ∈ l, OkE e ∧ goodE e = true) (hl : l.length ≤ 1000000000) : N.By (encEs l) := by
  refine (N.by_enc (by omega)).app fun y hy => ?_
  obtain ⟨e, he, hy2⟩ := List.mem_flatMap.1 hy
  obtain ⟨ho, hg⟩ := h e he
  obtain ⟨_, _, _, g4, g5, _⟩ := good_parts hg
  have b1 : N.By (D.encD e.dot) := (N.by_enc (by have := ho.dot.d1; omega)).app (N.by_enc ho.dot.n1)
  have b2 : N.By [e.kind] := fun x hx => by rw [List.mem_singleton.1 hx]; exact ho.kind
  have b3 : N.By [e.field] := fun x hx => by rw [List.mem_singleton.1 hx]; exact ho.field
  have ht := ho.text; have hk := ho.klen
  have b4 : N.By (encT e.text) := (N.by_enc (by omega)).app (by_bytes _)
  have b5 : N.By (D.encDs e.kills) := by
    rw [D.encDs, D.good_self g4 g5]
    refine (N.by_enc (by omega)).app fun z hz => ?_
    obtain ⟨d, hd, h⟩ := List.mem_flatMap.1 hz
    exact ((N.by_enc (by have := (ho.kills d hd).d1; omega)).app (N.by_enc (ho.kills d hd).n1)) z h
  exact (b1.app (b2.app ((N.by_enc ho.cid.2).app (b3.app (b4.app b5))))) y hy2
theorem ecodeBack_eq (l : List TEvent) (b : List Int) (h : ∀ e ∈ l, e.kills.length ≤ 300 ∧ e.text.size ≤ 200 → OkE e) (hb : ∀ x ∈ b, 0 ≤ x ∧ x ≤ 255) : l16_EcodeBack l b = pure true := by
  unfold l16_EcodeBack
  rw [show (12 : Int) = ((12 : Nat) : Int) from rfl, rFew_eq l 12 (by decide), det_pure, pure_bind, works_eq]
  cases hf : fewE l 12 with
  | false => simp only [Bool.not_false, cond_true, pure_bind, det_pure]
  | true =>
    by_cases hl : b.length ≤ 1000
    · have hd : decide ((1000 : Int) < (b.length : Int)) = false := by simp; omega
      have hB : OkB b := ⟨hb, by omega⟩
      obtain ⟨hll, hm⟩ := few_mem hf
      have ho : ∀ e ∈ l, OkE e := fun e he => h e he (hm e he)
      rw [Bool.not_true, cond_false, hd, pure_bind, cond_false, Decode_eq hB, det_pure, pure_bind]
      have first : (cond (decide ((decE b).2 = 0)) ((det (ecode_Encode (decE b).1)).bind fun v13 => (cond (!decide (v13.2 = 0)) (pure true) ((det (l16_equal b v13.1)).bind fun v17 => pure (!v17))).bind fun v15 => cond v15 (pure (.ret false)) (pure (.brk ()))) (pure (.brk ())) : M (Ex Unit Bool)) = pure (.brk ()) := by
        by_cases c : (decE b).2 = 0
        · obtain ⟨i1, i2⟩ := decE_inv hB c
          rw [decide_eq_true c, cond_true, Encode_eq (decE_okE hB), i2, if_pos rfl, det_pure, pure_bind]
          simp only [decide_true, Bool.not_true, cond_false, equal_eq, det_pure, pure_bind]
          rw [← i1, decide_eq_true rfl]
          rfl
        · rw [decide_eq_false c, cond_false]
      rw [first, pure_bind, exk_brk]
      obtain ⟨t, e1, e2, e3, e4⟩ := some_loop l ho (by omega)
      rw [e1, pure_bind]
      have hto : ∀ e ∈ t, OkE e ∧ goodE e = true := fun e he => ⟨ho e (e3 e he).1, (e3 e he).2⟩
      have hfl := flatE_len (l := t) (fun e he => (hto e he).1) (fun e he => hm e (e3 e he).1)
      have h9 := N.encI_len (v := (t.length : Int)) (by omega)
      have hel : (encEs t).length ≤ 1000000 := by rw [encEs, List.length_append]; omega
      have hO : Ok (encEs t, 0) := ⟨by_encEs hto (by omega), by show (encEs t).length ≤ _; omega, fun h => absurd rfl h⟩
      have hr := all_enc e2 hto (most := (t.length : Int)) (Int.le_refl _) (by omega) []
      rw [List.append_nil] at hr
      have p1 : ecode_GetAll_o (t.length : Int) (encEs t) 0 = pure (t, ([], 0)) := by rw [← hr]; exact GetAll_eq hO (by omega)
      have p2 : pack_Reader_End_o [] 0 = pure (endS ([], 0)) := N.End_eq ([], 0)
      have c1 := rAll_eq t t (by omega) fun e he => by have := (hto e he).1.klen; omega
      simp only [PutAll_eq (fun e he => (hto e he).1) (by omega) [] (by rw [List.length_nil]; omega), det_pure, pure_bind, List.nil_append, N.Bytes_eq (encEs t) (by omega), N.New_eq (encEs t) (by omega), p1, c1, decide_true, cond_true, p2, D.end_nil]
    · have hd : decide ((1000 : Int) < (b.length : Int)) = true := by simp; omega
      rw [Bool.not_true, cond_false, hd, pure_bind, cond_true, det_pure, pure_bind]
end Go.Ep.M.E

namespace Go.Ep
open Go.RowKit Go.ChangeShapes Go.WideShapes

abbrev All : Nat → Prop := fun _ => True

mutual
/-- How many values and letters a reading holds. -/
def bulk {H : Type} : DataW H → Nat
  | .lit (.string bytes) => bytes.length + 1
  | .lit _ => 1
  | .nil => 1
  | .ptr d => bulk d + 1
  | .slice elems spare => bulkAll elems + bulkAll spare + 1
  | .agg parts => bulkAll parts + 1
  | .iface _ d => bulk d + 1
  | .map entries => bulkEntries entries + 1
  | .held _ => 1
def bulkAll {H : Type} : List (DataW H) → Nat
  | [] => 0
  | d :: r => bulk d + bulkAll r
def bulkEntries {H : Type} : List (Lit × DataW H) → Nat
  | [] => 0
  | x :: r => bulkEntry x + bulkEntries r
def bulkEntry {H : Type} : Lit × DataW H → Nat
  | (.string bytes, d) => bytes.length + bulk d + 1
  | (_, d) => bulk d + 1
end
theorem one_bulk {H : Type} (d : DataW H) : 1 ≤ bulk d := by
  cases d with
  | lit l => cases l <;> simp [bulk]
  | nil => simp [bulk]
  | ptr d => simp [bulk]
  | slice elems spare => simp [bulk]
  | agg parts => simp [bulk]
  | iface t d => simp [bulk]
  | map entries => simp [bulk]
  | held h => simp [bulk]
theorem bulkAll_app {H : Type} (l r : List (DataW H)) : bulkAll (l ++ r) = bulkAll l + bulkAll r := by
  induction l with
  | nil => simp [bulkAll]
  | cons x l ih => simp only [List.cons_append, bulkAll, ih]; omega
def szL {α : Type} (sz : α → Nat) : List α → Nat
  | [] => 0
  | a :: r => sz a + szL sz r
theorem szL_app {α : Type} (sz : α → Nat) (l r : List α) : szL sz (l ++ r) = szL sz l + szL sz r := by
  induction l with
  | nil => simp [szL]
  | cons x l ih => simp only [List.cons_append, szL, ih]; omega
/-- What is read at this type is data of this kind. -/
structure Opn (P : Program) (t : TypeId) (k : Nat) {α : Type} (enc : α → List DV) (ok : α → Prop) (sz : α → Nat) : Prop where
  cells : P.cellsOf t = k
  op : ∀ {H : Type} {en : TypeId × Value → H} {w : World} {fuel : Nat} {cs : List Value} {x : DataW H × List MemPlace}, DataW.trod en P w 0 (fun _ => true) true fuel t cs = some x →
    ∃ a, ok a ∧ cs.length = k ∧ (enc a).length = k ∧ (∀ (j : Nat) (y : DV) (u : Value), (enc a)[j]? = some y → cs[j]? = some u → DRd w All y u) ∧ sz a ≤ bulk x.1

section
variable {P : Program} {t : TypeId}

theorem Opn.map {k : Nat} {α β : Type} {enc : α → List DV} {enc' : β → List DV} {ok : α → Prop} {ok' : β → Prop} {sz : α → Nat} {sz' : β → Nat} (h : Opn P t k enc ok sz) (f : α → β) (he : ∀ a, ok a → enc' (f a) = enc a) (ho : ∀ a, ok a → ok' (f a)) (hz : ∀ a, sz' (f a) ≤ sz a) : Opn P t k enc' ok' sz' :=
  ⟨h.cells, fun hx => let ⟨a, h1, h2, h3, h4, h5⟩ := h.op hx; ⟨f a, ho a h1, h2, by rw [he a h1]; exact h3, by rw [he a h1]; exact h4, Nat.le_trans (hz a) h5⟩⟩

theorem one_get {w : World} {y : DV} {u : Value} (h : DRd w All y u) : ∀ (j : Nat) (y' : DV) (u' : Value), [y][j]? = some y' → [u][j]? = some u' → DRd w All y' u' := by
  intro j y' u' h1 h2
  cases j with
  | zero => simp at h1 h2; subst h1; subst h2; exact h
  | succ j => simp at h1

def okK (k : IntKind) (n : Int) : Prop := (Lit.int k n).wf = true
theorem Opn.int {k : IntKind} (hu : P.underlying t = some (.int k)) (hc : P.cellsOf t = 1) : Opn P t 1 (eK k) (okK k) (fun _ => 1) := by
  refine ⟨hc, fun {H en w fuel cs x} h => ?_⟩
  cases fuel with
  | zero => simp [DataW.trod] at h
  | succ fuel =>
    unfold DataW.trod at h
    rw [hu] at h
    split at h <;> simp_all
    case h_2 n _ =>
      obtain ⟨⟨h1, h2⟩, _⟩ := h
      subst h1
      refine ⟨n, h2, rfl, ?_, one_bulk _⟩
      intro j y u h1 h3
      exact one_get (.v _ rfl) j y u h1 h3
theorem okU64 {n : Int} (h : okK .u64 n) : 0 ≤ n ∧ n < 18446744073709551616 := by
  simp [okK, Lit.wf, IntKind.min, IntKind.max, IntKind.signed, IntKind.bits] at h; omega
theorem okU16 {n : Int} (h : okK .u16 n) : 0 ≤ n ∧ n < 65536 := by
  simp [okK, Lit.wf, IntKind.min, IntKind.max, IntKind.signed, IntKind.bits] at h; omega
theorem okU8 {n : Int} (h : okK .u8 n) : 0 ≤ n ∧ n < 256 := by
  simp [okK, Lit.wf, IntKind.min, IntKind.max, IntKind.signed, IntKind.bits] at h; omega
theorem Opn.str (hu : P.underlying t = some .string) (hc : P.cellsOf t = 1) : Opn P t 1 eS (fun s => s.size ≤ 9223372036854775807) (fun s => s.size + 1) := by
  refine ⟨hc, fun {H en w fuel cs x} h => ?_⟩
  cases fuel with
  | zero => simp [DataW.trod] at h
  | succ fuel =>
    unfold DataW.trod at h
    rw [hu] at h
    split at h <;> simp_all
    case h_4 =>
      rename_i s
      obtain ⟨h1, h2⟩ := h
      refine ⟨s, by have := h1; unfold maxLen at this; exact this, rfl, ?_, ?_⟩
      · intro j y u h1 h2
        exact one_get (.v _ rfl) j y u h1 h2
      · subst h2
        have e : s.data.toList.length = s.size := Array.length_toList
        show s.size + 1 ≤ bulk (DataW.lit (Lit.string s.data.toList))
        unfold bulk
        omega

theorem Opn.slice {e : TypeId} {k : Nat} {α : Type} {enc : α → List DV} {ok : α → Prop} {sz : α → Nat} (h : Opn P e k enc ok sz) (hu : P.underlying t = some (.slice e)) (hc : P.cellsOf t = 1) (hk : 0 < k) :
    Opn P t 1 (eL enc) (fun l => l.length ≤ 9223372036854775807 ∧ ∀ a ∈ l, ok a) (fun l => szL sz l + 1) := by
  refine ⟨hc, fun {H en w fuel cs x} hx => ?_⟩
  rcases Deep.open_slice hu hx with ⟨rfl, _⟩ | ⟨a, len, cap, m, n, D, Pl, rfl, _, hl, hm, hmm, hxD, hel⟩
  · exact ⟨[], ⟨Nat.zero_le _, by simp⟩, rfl, rfl, one_get (.nil none 0 (Nat.zero_le _) (fun _ => rfl)), one_bulk _⟩
  simp only [if_true] at hmm
  subst hmm
  rw [h.cells] at hel
  have hcut : ∀ n0, n0 ≤ len → ∃ l : List α, l.length = n0 ∧ (∀ a ∈ l, ok a) ∧ szL sz l ≤ bulkAll ((List.range n0).map D) ∧ ∀ (i : Nat) (b : α), l[i]? = some b → (enc b).length = k ∧ ∀ (j : Nat) (y : DV), (enc b)[j]? = some y → ∃ u, w.cell? (a.add (i * k + j)) = some u ∧ DRd w All y u := by
    intro n0
    induction n0 with
    | zero => intro _; exact ⟨[], rfl, by simp, by simp [szL], by simp⟩
    | succ n0 ih =>
      intro hn
      obtain ⟨l, h1, h2, hz, h3⟩ := ih (by omega)
      obtain ⟨cs', hc', ht'⟩ := hel n0 (by omega)
      obtain ⟨b, hb1, hb2, hb3, hb4, hb5⟩ := h.op ht'
      obtain ⟨_, _, hcell⟩ := World.cells?_some hc'
      refine ⟨l ++ [b], by simp [h1], ?_, by rw [szL_app, List.range_succ, List.map_append, bulkAll_app]; simp only [szL, List.map_cons, List.map_nil, bulkAll]; simp only at hb5; omega, ?_⟩
      · intro a ha
        rcases List.mem_append.1 ha with ha | ha
        · exact h2 a ha
        · simp at ha; subst ha; exact hb1
      · intro i b' hi
        rw [List.getElem?_append] at hi
        split at hi
        · exact h3 i b' hi
        · rename_i hge
          have hi0 : i = n0 := by
            have : i - l.length < 1 := by simpa using (List.getElem?_eq_some_iff.1 hi).1
            omega
          subst hi0
          simp [h1] at hi
          subst hi
          refine ⟨hb3, fun j y hy => ?_⟩
          have hj : j < k := by rw [← hb3]; exact (List.getElem?_eq_some_iff.1 hy).1
          have hcj := hcell j hj
          rw [Deep.add_add] at hcj
          have hu' : cs'[j]? = some (cs'[j]'(by omega)) := List.getElem?_eq_getElem (by omega)
          exact ⟨_, by rw [hcj, hu'], hb4 j y _ hy hu'⟩
  obtain ⟨l, h1, h2, hz, h3⟩ := hcut len (Nat.le_refl _)
  refine ⟨l, ⟨by unfold maxLen at hm; omega, h2⟩, rfl, rfl, one_get ?_, ?_⟩
  rotate_left
  · rw [hxD]; simp only [bulk]; omega
  by_cases h0 : len = 0
  · have : l = [] := List.eq_nil_of_length_eq_zero (by omega)
    subst this
    subst h0
    exact .nil _ _ hm (fun e => by cases e)
  · -- the first cell tells that the address is a plain one
    have hl0 : 0 < l.length := by omega
    obtain ⟨hk0, hc0⟩ := h3 0 _ (List.getElem?_eq_getElem hl0)
    obtain ⟨u0, hu0, _⟩ := hc0 0 _ (List.getElem?_eq_getElem (by omega : 0 < (enc l[0]).length))
    have hspot : a.spot = none := by simpa [Addr.add] using World.cell?_spot hu0
    obtain ⟨b, off, spot⟩ := a
    simp only at hspot
    subst hspot
    have hb : b < w.heap.size := by
      rw [Addr.add_lit] at hu0
      unfold World.cell? at hu0
      cases hh : w.heap[b]? with
      | none => simp [hh] at hu0
      | some o => exact (Array.getElem?_eq_some_iff.1 hh).1
    have hlen : (l.map enc).length = len := by simp [h1]
    rw [← hlen]
    refine .sl _ b off m k (fun i j => (w.cell? ⟨b, off + (i * k + j), none⟩).getD undef) (by omega) hm trivial hb ?_ ?_ ?_
    · intro i cs hi
      rw [List.getElem?_map] at hi
      cases hx : l[i]? with
      | none => simp [hx] at hi
      | some y => simp [hx] at hi; subst hi; exact (h3 i y hx).1
    · intro i j hi hj
      have hil : i < l.length := by simpa using hi
      obtain ⟨e1, e2⟩ := h3 i _ (List.getElem?_eq_getElem hil)
      obtain ⟨u, hu, _⟩ := e2 j _ (List.getElem?_eq_getElem (by omega : j < (enc l[i]).length))
      rw [Addr.add_lit] at hu
      simp [hu]
    · intro i cs j x hi hx
      rw [List.getElem?_map] at hi
      cases hy : l[i]? with
      | none => simp [hy] at hi
      | some y =>
        simp [hy] at hi
        subst hi
        obtain ⟨u, hu, hd⟩ := (h3 i y hy).2 j x hx
        rw [Addr.add_lit] at hu
        simpa [hu] using hd

/-- The fields from offset off on. -/
structure OpnF (P : Program) (fs : List Field) (off k : Nat) {α : Type} (enc : α → List DV) (ok : α → Prop) (sz : α → Nat) : Prop where
  op : ∀ {H : Type} {en : TypeId × Value → H} {w : World} {n : Nat} {cs : List Value} {xs : List (DataW H × List MemPlace)}, xs.length = fs.length →
    (∀ (i : Nat) (f : Field), fs[i]? = some f → DataW.trod en P w 0 (fun _ => true) true n f.type ((cs.drop f.offset).take (P.cellsOf f.type)) = xs[i]?) →
    ∃ a, ok a ∧ (enc a).length = k ∧ (∀ (j : Nat) (y : DV) (u : Value), (enc a)[j]? = some y → cs[off + j]? = some u → DRd w All y u) ∧ sz a ≤ bulkAll (xs.map (·.1))

theorem OpnF.nil (off : Nat) : OpnF P [] off 0 (fun _ : Unit => []) (fun _ => True) (fun _ => 0) := ⟨fun _ _ => ⟨(), trivial, rfl, by simp, Nat.zero_le _⟩⟩
theorem OpnF.cons {f : Field} {fs : List Field} {off k1 k2 : Nat} {α β : Type} {e1 : α → List DV} {o1 : α → Prop} {e2 : β → List DV} {o2 : β → Prop} {z1 : α → Nat} {z2 : β → Nat} (h1 : Opn P f.type k1 e1 o1 z1) (ho : f.offset = off) (h2 : OpnF P fs (off + k1) k2 e2 o2 z2) :
    OpnF P (f :: fs) off (k1 + k2) (fun p : α × β => e1 p.1 ++ e2 p.2) (fun p => o1 p.1 ∧ o2 p.2) (fun p => z1 p.1 + z2 p.2) := by
  refine ⟨fun {H en w n cs xs} hlen hx => ?_⟩
  cases xs with
  | nil => simp at hlen
  | cons x xs =>
    have hx0 := hx 0 f rfl
    simp only [List.getElem?_cons_zero] at hx0
    obtain ⟨a, ha1, ha2, ha3, ha4, ha5⟩ := h1.op hx0
    obtain ⟨b, hb1, hb2, hb3, hb4⟩ := h2.op (xs := xs) (by simpa using hlen) (fun i f' hf => by have := hx (i + 1) f' (by simpa using hf); simpa using this)
    refine ⟨(a, b), ⟨ha1, hb1⟩, by simp [ha3, hb2], ?_, by simp only [List.map_cons, bulkAll]; omega⟩
    intro j y u hy hu
    simp only [List.getElem?_append] at hy
    by_cases hj : j < k1
    · rw [if_pos (by omega)] at hy
      refine ha4 j y u hy ?_
      rw [List.getElem?_take, h1.cells, if_pos hj, List.getElem?_drop, ho]
      exact hu
    · rw [if_neg (by omega), ha3] at hy
      refine hb3 (j - k1) y u hy ?_
      rw [← hu]
      congr 1
      omega
theorem Opn.struct {fs : List Field} {k : Nat} {α : Type} {enc : α → List DV} {ok : α → Prop} {sz : α → Nat} (hu : P.underlying t = some (.struct fs.toArray)) (hc : P.cellsOf t = k) (h : OpnF P fs 0 k enc ok sz) : Opn P t k enc ok (fun a => sz a + 1) := by
  refine ⟨hc, fun {H en w fuel cs x} hx => ?_⟩
  obtain ⟨xs, n, _, hxe, hlen, hxl, hf⟩ := DataW.trod_struct hu hx
  obtain ⟨a, h1, h2, h3, h4⟩ := h.op (cs := cs) (xs := xs) (by simpa using hxl) (fun i f hi => hf i f (by simpa using hi))
  exact ⟨a, h1, by rw [hlen, hc], h2, fun j y u hy hu => h3 j y u hy (by simpa using hu), by rw [hxe]; simp only [bulk]; omega⟩

/-- A one-cell argument. -/
theorem Opn.arg {H : Type} {en : TypeId × Value → H} {w : World} {v : Value} {d : DataW H} {ps : List MemPlace} {α : Type} {enc : α → DV} {ok : α → Prop} {sz : α → Nat} (h : Opn P t 1 (fun a => [enc a]) ok sz)
    (hx : DataW.Trod en P w 0 (fun _ => true) true t v d ps) (h1 : v.oneCell' = true) : ∃ a, ok a ∧ Rd w g0 All (.d (enc a)) v ∧ sz a ≤ bulk d := by
  obtain ⟨fuel, hf⟩ := hx
  obtain ⟨a, ha, _, _, hr, hz⟩ := h.op hf
  have hcs : v.cells.toList = [v] := by cases v <;> first | rfl | (simp [Value.oneCell'] at h1; done)
  exact ⟨a, ha, .d (hr 0 _ v rfl (by rw [hcs]; rfl)), hz⟩
theorem trodAll_below {H : Type} {en : TypeId × Value → H} (hl : laidOutB P = true) {W W' : World} (hb : Below W.heap.size W W') : ∀ {ts : List TypeId} {vs : List Value} {ds : List (DataW H)} {ps : List MemPlace},
    (∀ t ∈ ts, P.readableRec t = true ∧ t < P.types.size) → DataW.TrodAll en P W 0 (fun _ => true) true ts vs ds ps → (∀ x ∈ ps, x.block < W.heap.size) → DataW.TrodAll en P W' 0 (fun b => decide (b < W.heap.size)) true ts vs ds ps
  | [], [], [], ps, _, h, _ => h
  | t :: ts, v :: vs, d :: ds, ps, hr, h, hlt => by
    obtain ⟨p, q, h1, h2, rfl⟩ := h
    have hrt := hr t (by simp)
    exact ⟨p, q, Below.trod hl hrt.1 hrt.2 h1 hb (fun x hx => hlt x (List.mem_append.2 (.inl hx))), trodAll_below hl hb (fun t ht => hr t (by simp [ht])) h2 (fun x hx => hlt x (List.mem_append.2 (.inr hx))), rfl⟩
  | [], [], _ :: _, _, _, h, _ => h.elim
  | [], _ :: _, _, _, _, h, _ => h.elim
  | _ :: _, [], _, _, _, h, _ => h.elim
  | _ :: _, _ :: _, [], _, _, h, _ => h.elim
theorem trodAll_len {H : Type} {en : TypeId × Value → H} {w : World} {base : Nat} {sp : Nat → Bool} {hd : Bool} : ∀ {ts : List TypeId} {vs : List Value} {ds : List (DataW H)} {ps : List MemPlace}, DataW.TrodAll en P w base sp hd ts vs ds ps → ds.length = ts.length
  | [], [], [], _, _ => rfl
  | _ :: _, _ :: _, _ :: _, _, h => by
    obtain ⟨_, _, _, h2, _⟩ := h
    simp [trodAll_len h2]
  | [], [], _ :: _, _, h => h.elim
  | [], _ :: _, _, _, h => h.elim
  | _ :: _, [], _, _, h => h.elim
  | _ :: _, _ :: _, [], _, h => h.elim

/-- 'For every input true; the input reads as it did.' -/
theorem post_true {H : Type} {en : TypeId × Value → H} {fn : Func} {s : ChangeSpec} {tb : TypeId} {W W' : World} {args : Array Value} {ds gs : List (DataW H)} {before : List MemPlace} (hl : laidOutB P = true)
    (hW : DataW.Whole en P fn.params.toList s.vars false W args.toList ds gs before) (hv : s.vars = []) (hs : ∀ ds : List (DataW H), ds.length = fn.params.size → (s.fn H ds).results = [.lit (.bool true)] ∧ (s.fn H ds).args = ds ∧ (s.fn H ds).vars = [])
    (hres : fn.resultTypes = #[tb]) (htb : P.underlying tb = some .bool) (hr : ∀ t ∈ fn.params.toList, P.readableRec t = true ∧ t < P.types.size) (hb : Below W.heap.size W W') :
    s.post en P fn false true false false W args (.bool true) W' := by
  have hW' := hW
  obtain ⟨p, q, hA, hV, hpq, hfz, hnd⟩ := hW
  rw [hv] at hV
  obtain ⟨rfl, rfl⟩ := trodVars_none hV
  simp only [List.append_nil] at hpq
  subst hpq
  have hlt : ∀ x ∈ before, x.block < W.heap.size := fun x hx => by simpa using hW'.lt x hx
  have hlen : ds.length = fn.params.size := by simpa using trodAll_len hA
  obtain ⟨e1, e2, e3⟩ := hs (ds ++ []) (by simpa using hlen)
  refine ⟨ds, [], before, [], before, [], hW', ?_, ?_, ?_, hb.frame _, fun h => by cases h⟩
  · rw [e1, hres]
    exact trodAll_mk1 (shut_bool htb true)
  · rw [e2, List.append_nil]
    exact trodAll_below hl hb hr hA hlt
  · rw [e3, hv]; rfl
end
end Go.Ep

namespace Go.Ep
set_option linter.unusedVariables false

def TDot.ok (x : TDot) : Prop := okK .u16 x.dev ∧ okK .u64 x.n
def TDot.sz (x : TDot) : Nat := (1 + (1 + 0)) + 1
def TRun.ok (x : TRun) : Prop := okK .u64 x.lo ∧ okK .u64 x.hi
def TRun.sz (x : TRun) : Nat := (1 + (1 + 0)) + 1
def TPart.ok (x : TPart) : Prop := okK .u16 x.dev ∧ (List.length x.runs ≤ 9223372036854775807 ∧ ∀ a ∈ x.runs, TRun.ok a)
def TPart.sz (x : TPart) : Nat := (1 + ((szL TRun.sz x.runs + 1) + 0)) + 1
def TEvent.ok (x : TEvent) : Prop := TDot.ok x.dot ∧ okK .u8 x.kind ∧ okK .u64 x.cid ∧ okK .u8 x.field ∧ ByteArray.size x.text ≤ 9223372036854775807 ∧ (List.length x.kills ≤ 9223372036854775807 ∧ ∀ a ∈ x.kills, TDot.ok a)
def TEvent.sz (x : TEvent) : Nat := (TDot.sz x.dot + (1 + (1 + (1 + ((ByteArray.size x.text + 1) + ((szL TDot.sz x.kills + 1) + 0)))))) + 1
end Go.Ep
namespace Go.Proofs
open Go.Ep
set_option maxRecDepth 100000
theorem opnTDot : Opn Try.prog 38 2 TDot.e TDot.ok TDot.sz := (Opn.struct Try.underlying38 (by kernel_rfl) (OpnF.cons (Opn.int Try.underlying28 (by kernel_rfl)) rfl (OpnF.cons (Opn.int Try.underlying36 (by kernel_rfl)) rfl (OpnF.nil _)))).map (fun p => ⟨p.1, p.2.1⟩) (fun _ _ => rfl) (fun p h => ⟨h.1, h.2.1⟩) (fun _ => Nat.le_refl _)
theorem opnTEvent : Opn Try.prog 41 7 TEvent.e TEvent.ok TEvent.sz := (Opn.struct Try.underlying41 (by kernel_rfl) (OpnF.cons opnTDot rfl (OpnF.cons (Opn.int Try.underlying5 (by kernel_rfl)) rfl (OpnF.cons (Opn.int Try.underlying36 (by kernel_rfl)) rfl (OpnF.cons (Opn.int Try.underlying5 (by kernel_rfl)) rfl (OpnF.cons (Opn.str Try.underlying9 (by kernel_rfl)) rfl (OpnF.cons (opnTDot.slice Try.underlying39 (by kernel_rfl) (by decide)) rfl (OpnF.nil _)))))))).map (fun p => ⟨p.1, p.2.1, p.2.2.1, p.2.2.2.1, p.2.2.2.2.1, p.2.2.2.2.2.1⟩) (fun _ _ => rfl) (fun p h => ⟨h.1, h.2.1, h.2.2.1, h.2.2.2.1, h.2.2.2.2.1, h.2.2.2.2.2.1⟩) (fun _ => Nat.le_refl _)
end Go.Proofs

