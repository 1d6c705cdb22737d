/- Texts that the walks and laws lean on, side by side. -/
import Derived.Shelf.SlSortCmp.NoneTotal
import Derived.StillTactics
import Derived.RegionTactic
import Derived.Test.YtacnidaafcfgiaaMeb2
set_option linter.unusedVariables false
set_option linter.unusedSimpArgs false
namespace Go.Proofs
set_option linter.unusedSimpArgs false
set_option linter.unusedVariables false
open Go.Shelf Go.RowKit Go.Lib Go.Sort Go.Ep
theorem nanu16 (a : Int) (W : World) : Calls Try.prog 174 #[.int .u16 a] W fun e w' => e = .returned (.bool false) ∧ w' = W := by
  go_enter Try.func174, Try.ntmps174
  go_wp2
  go_ret
  exact ⟨by simp, rfl⟩
theorem cmpu16 (a b : Int) (W : World) : Calls Try.prog 146 #[.int .u16 a, .int .u16 b] W fun e w' => e = .returned (.int .i64 (Lib.compareInt a b)) ∧ w' = W := by
  unfold Lib.compareInt
  by_cases h1 : a < b
  · go_enter Try.func146, Try.ntmps146
    go_wp2_with (go_at_call 174; refine (nanu16 _ _).mono ?_; rintro e w' ⟨rfl, rfl⟩)
    go_ret
    exact ⟨by simp [h1], rfl⟩
  · by_cases h2 : b < a
    · go_enter Try.func146, Try.ntmps146
      go_wp2_with (go_at_call 174; refine (nanu16 _ _).mono ?_; rintro e w' ⟨rfl, rfl⟩)
      go_ret
      exact ⟨by simp [h1, h2], rfl⟩
    · go_enter Try.func146, Try.ntmps146
      go_wp2_with (go_at_call 174; refine (nanu16 _ _).mono ?_; rintro e w' ⟨rfl, rfl⟩)
      go_ret
      exact ⟨by simp [h1, h2], rfl⟩
theorem nanu64 (a : Int) (W : World) : Calls Try.prog 172 #[.int .u64 a] W fun e w' => e = .returned (.bool false) ∧ w' = W := by
  go_enter Try.func172, Try.ntmps172
  go_wp2
  go_ret
  exact ⟨by simp, rfl⟩
theorem cmpu64 (a b : Int) (W : World) : Calls Try.prog 143 #[.int .u64 a, .int .u64 b] W fun e w' => e = .returned (.int .i64 (Lib.compareInt a b)) ∧ w' = W := by
  unfold Lib.compareInt
  by_cases h1 : a < b
  · go_enter Try.func143, Try.ntmps143
    go_wp2_with (go_at_call 172; refine (nanu64 _ _).mono ?_; rintro e w' ⟨rfl, rfl⟩)
    go_ret
    exact ⟨by simp [h1], rfl⟩
  · by_cases h2 : b < a
    · go_enter Try.func143, Try.ntmps143
      go_wp2_with (go_at_call 172; refine (nanu64 _ _).mono ?_; rintro e w' ⟨rfl, rfl⟩)
      go_ret
      exact ⟨by simp [h1, h2], rfl⟩
    · go_enter Try.func143, Try.ntmps143
      go_wp2_with (go_at_call 172; refine (nanu64 _ _).mono ?_; rintro e w' ⟨rfl, rfl⟩)
      go_ret
      exact ⟨by simp [h1, h2], rfl⟩
def cf128 (x y : TDot) : Int := if Lib.compareInt x.dev y.dev ≠ 0 then Lib.compareInt x.dev y.dev else Lib.compareInt x.n y.n
theorem callcf128 (x y : TDot) (W : World) : Calls Try.prog 107 #[.agg #[.int .u16 x.dev, .int .u64 x.n], .agg #[.int .u16 y.dev, .int .u64 y.n]] W fun e w' => e = .returned (.int .i64 (cf128 x y)) ∧ ∃ q os', w' = grow (W.drewN q) os' := by
  have c1 := fun W' => cmpu16 x.dev y.dev W'
  have c2 := fun W' => cmpu64 x.n y.n W'
  unfold cf128
  generalize Lib.compareInt x.dev y.dev = r1 at c1 ⊢
  generalize Lib.compareInt x.n y.n = r2 at c2 ⊢
  by_cases h : r1 = 0
  · subst h
    go_enter Try.func107, Try.ntmps107
    go_wp2_with (first | (go_at_call 146; refine (c1 _).mono ?_; rintro e w' ⟨rfl, rfl⟩) | (go_at_call 143; refine (c2 _).mono ?_; rintro e w' ⟨rfl, rfl⟩))
    go_ret
    exact ⟨by simp, 0, _, by rw [alloc_eq_grow, alloc_eq_grow, grow_grow]; rfl⟩
  · go_enter Try.func107, Try.ntmps107
    go_wp2_with (first | (go_at_call 146; refine (c1 _).mono ?_; rintro e w' ⟨rfl, rfl⟩) | (go_at_call 143; refine (c2 _).mono ?_; rintro e w' ⟨rfl, rfl⟩))
    go_ret
    exact ⟨by simp [h], 0, _, by rw [alloc_eq_grow, alloc_eq_grow, grow_grow]; rfl⟩
theorem ltcf128 (x y : TDot) : ltOf cf128 x y = ltDot x y := by
  unfold ltOf cf128 Lib.compareInt ltDot
  rw [Bool.eq_iff_iff]
  simp only [decide_eq_true_eq, Bool.or_eq_true, Bool.and_eq_true]
  split <;> (repeat' split) <;> omega
theorem swocf128 : SWO (ltOf cf128) where
  irrefl x := by rw [ltcf128]; simp [ltDot]
  trans x y z h1 h2 := by rw [ltcf128] at *; simp [ltDot] at *; omega
  ntrans x y z h1 h2 := by rw [ltcf128] at *; simp [ltDot] at *; omega
instance inhcf128 : Inhabited TDot := ⟨⟨0, 0⟩⟩
theorem layscf128 (blk off size : Nat) (w : World) : CmpLays Try.prog 107 #[] TDot.v 2 cf128 blk off size w := fun _ _ _ _ x y => callcf128 x y _
set_option maxHeartbeats 2000000 in
set_option maxRecDepth 100000 in
theorem sort128_eq (blk off cap : Nat) (d : Array TDot) (w : World) (hH : HoldsK TDot.v 2 w blk off d) (hblk : blk < w.heap.size) (hsz : d.size < 4611686018427387904) :
    Calls Try.prog 128 #[.slice (some ⟨blk, off, none⟩) d.size cap, .func (.func 107) #[] #[]] w fun e w' => e = .returned (.tuple #[]) ∧ ∃ n os, w' = sortWorldK TDot.v 2 w blk off n (pdq (ltOf cf128) d 0 d.size (Lib.bitLen d.size) true true) os := by
  have eg : ∀ args w, (callFunc 107 args).run Try.prog w = .ok (.enter 107 args) w := Try.call107
  have e14 := Try.call163
  have e15 := Try.call164
  have hlim : Lib.bitLen d.size < 4611686018427387904 := Nat.lt_of_le_of_lt (Lib.bitLen_le d.size 62 (by omega) (by omega)) (by omega)
  have hp := AnyQ.pdqsortCmpFunc_all Try.pdq163 2 Try.isAgg38 Try.sizeOf38 TDot.v cf128 107 #[] swocf128 blk off cap d w eg (layscf128 blk off d.size w) ⟨fun _ => rfl, TDot.v1, hH, hblk⟩ (d.size + 1) 0 d.size (Lib.bitLen d.size) d w (by omega) rfl (SWK.start hH) (Nat.zero_le _) (Nat.le_refl _) hsz hlim (Or.inl rfl)
  change Calls Try.prog 163 _ _ _ at hp
  have hl : Calls Try.prog 164 #[.int .u64 (d.size : Int)] w fun e w' => e = .returned (.int .i64 (Lib.bitLen d.size : Nat)) ∧ w' = w := by
    have h := Any.bits_Len (SlLaysF0.n15.bits Try.bits164) (d.size : Int) w (by omega) (by omega)
    rwa [Int.toNat_natCast] at h
  have wr : IntKind.u64.wrap (d.size : Int) = d.size := by simp [IntKind.wrap, IntKind.bits, IntKind.signed]; omega
  clear hH
  go_enter Try.func128, Try.ntmps128
  go_wp2_with (first | (go_at_call 164; refine hl.mono ?_; rintro e w' ⟨rfl, rfl⟩) | (go_at_call 163; refine hp.mono ?_; rintro e w' ⟨rfl, n, os, rfl⟩))
  go_end0
  exact ⟨rfl, n, os, rfl⟩
theorem sort128_nil (w : World) : Calls Try.prog 128 #[.slice none 0 0, .func (.func 107) #[] #[]] w fun e w' => e = .returned (.tuple #[]) ∧ Go.RowKit.Below w.heap.size w w' := by
  have e14 := Try.call163
  have e15 := Try.call164
  have hp := fun lim W => AnyF.pdqsortCmpFunc_none Try.pdq163 none 0 lim (.func (.func 107) #[] #[]) W
  have hl : ∀ W, Calls Try.prog 164 #[.int .u64 0] W fun e w' => e = .returned (.int .i64 (Lib.bitLen 0 : Nat)) ∧ w' = W := fun W => by
    have h := Any.bits_Len (SlLaysF0.n15.bits Try.bits164) 0 W (by omega) (by omega)
    exact h
  go_enter Try.func128, Try.ntmps128
  go_wp2_with (first | (go_at_call 164; refine (hl _).mono ?_; rintro e w' ⟨rfl, rfl⟩) | (go_at_call 163; refine (hp _ _).mono ?_; rintro e w' ⟨rfl, rfl⟩))
  go_end0
  exact ⟨rfl, Go.RowKit.Below.refl _ _⟩
theorem srt128_107 : SortLaw Try.prog 128 107 2 TDot.v ltDot := SortLaw.of swocf128 ltcf128 (fun _ => rfl) sort128_nil (fun blk off cap d w hH hblk hsz => sort128_eq blk off cap d w hH hblk hsz)
structure RawTPart where
  dev_ : Int
  c1 : Value
  h1 : c1.oneCell' = true
def RawTPart.v (r : RawTPart) : List Value := [.int .u16 r.dev_, r.c1]
theorem RawTPart.v1 (r : RawTPart) : ∀ u ∈ r.v, u.oneCell' = true := by
  intro u hu
  simp only [RawTPart.v, List.mem_cons, List.not_mem_nil, or_false] at hu
  rcases hu with rfl | rfl
  · rfl
  · exact r.h1
def RawTPart.R (x : TPart) (r : RawTPart) : Prop := r.dev_ = x.dev
instance inhcf144 : Inhabited RawTPart := ⟨⟨0, .int .u64 0, rfl⟩⟩
instance inhcf169 : Inhabited TRun := ⟨⟨0, 0⟩⟩
end Go.Proofs

namespace Go.Ep
open Go.RowKit

/-- What an operation does to a state: slots, objects. -/
structure Ef where
  U : List (Nat × PV)
  V : List (Nat × Ob)
def PState.app (s : PState) (e : Ef) : PState := { n := s.n, sl := e.U ++ s.sl, objs := e.V.foldr (fun x l => putO x.1 x.2 l) s.objs }
/-- What it writes, reads, makes anew, has alone, names: slots; objects. -/
structure Ft where
  ws : List Nat
  wo : List Nat := []
  ro : List Nat := []
  fr : List Nat := []
  al : List (Nat × List Nat) := []
  nm : List Nat := []
  no : List Nat := []
  ao : List Nat := []

def inL (l : List Nat) (i : Nat) : Bool := l.any (Nat.beq i)
theorem inL_iff {l : List Nat} {i : Nat} : inL l i = true ↔ i ∈ l := by
  unfold inL
  rw [List.any_eq_true]
  exact ⟨fun ⟨x, h1, h2⟩ => (Nat.eq_of_beq_eq_true h2) ▸ h1, fun h => ⟨i, h, Nat.beq_refl i⟩⟩

def PV.named (nm : List Nat) : PV → Bool
  | .ref i _ | .row i _ | .rp i _ _ _ | .pc i _ _ _ | .mp i => inL nm i
  | .agg cs => namedL nm cs
  | .tup cs => namedL nm cs
  | _ => true
where namedL (nm : List Nat) : List PV → Bool
  | [] => true
  | c :: r => c.named nm && namedL nm r
def Ob.named (nm : List Nat) : Ob → Bool
  | .cells _ cs => PV.named.namedL nm cs
  | .iterO mid _ _ _ => inL nm mid
  | .pin tgt _ _ => inL nm tgt
  | .mapP _ _ ov _ _ => match ov with | some (_, p) => p.named nm | none => true
  | _ => true
mutual
theorem PV.named_has {nm : List Nat} {id : Nat} : ∀ {p : PV}, p.named nm = true → p.has id = true → id ∈ nm
  | .ref i _, h, h2 => by simp only [PV.named, inL_iff, PV.has, beq_iff_eq] at h h2; exact h2 ▸ h
  | .row i _, h, h2 => by simp only [PV.named, inL_iff, PV.has, beq_iff_eq] at h h2; exact h2 ▸ h
  | .rp i _ _ _, h, h2 => by simp only [PV.named, inL_iff, PV.has, beq_iff_eq] at h h2; exact h2 ▸ h
  | .pc i _ _ _, h, h2 => by simp only [PV.named, inL_iff, PV.has, beq_iff_eq] at h h2; exact h2 ▸ h
  | .mp i, h, h2 => by simp only [PV.named, inL_iff, PV.has, beq_iff_eq] at h h2; exact h2 ▸ h
  | .agg cs, h, h2 => PV.namedL_has (cs := cs) h h2
  | .tup cs, h, h2 => PV.namedL_has (cs := cs) h h2
  | .junk, _, h2 => by simp [PV.has] at h2
  | .und, _, h2 => by simp [PV.has] at h2
  | .d _, _, h2 => by simp [PV.has] at h2
  | .ep _ _, _, h2 => by simp [PV.has] at h2
  | .md _ _ _, _, h2 => by simp [PV.has] at h2
theorem PV.namedL_has {nm : List Nat} {id : Nat} : ∀ {cs : List PV}, PV.named.namedL nm cs = true → PV.has.hasL id cs = true → id ∈ nm
  | [], _, h2 => by simp [PV.has.hasL] at h2
  | c :: r, h, h2 => by
    simp only [PV.named.namedL, Bool.and_eq_true] at h
    simp only [PV.has.hasL, Bool.or_eq_true] at h2
    rcases h2 with h2 | h2
    · exact PV.named_has h.1 h2
    · exact PV.namedL_has h.2 h2
end
theorem Ob.named_has {nm : List Nat} {id : Nat} {o : Ob} (h : o.named nm = true) (h2 : o.has id = true) : id ∈ nm := by
  cases o with
  | cells T cs => exact PV.namedL_has h h2
  | iterO mid bs ck L => simp only [Ob.named, inL_iff, Ob.has, beq_iff_eq] at h h2; exact h2 ▸ h
  | pin tgt blk n => simp only [Ob.named, inL_iff, Ob.has, beq_iff_eq] at h h2; exact h2 ▸ h
  | mapP ks m ov bs ck =>
    cases ov with
    | none => cases h2
    | some x => exact PV.named_has h h2
  | _ => simp [Ob.has] at h2

section
variable {β : Type}
/-- What lies in a place behind the operations of E; l: what each operation writes there. -/
def cont : List (Option β) → (Nat → Bool) → Nat → Option β → Option β
  | [], _, _, c => c
  | x :: r, E, b, c => cont r E (b + 1) (bif E b then x.or c else c)
theorem cont_congr : ∀ {l : List (Option β)} {E E' : Nat → Bool} {b : Nat} {c : Option β}, (∀ j x, l[j]? = some (some x) → E (b + j) = E' (b + j)) → cont l E b c = cont l E' b c
  | [], _, _, _, _, _ => rfl
  | x :: r, E, E', b, c, h => by
    unfold cont
    have h1 : (bif E b then x.or c else c) = (bif E' b then x.or c else c) := by
      cases x with
      | none => cases E b <;> cases E' b <;> rfl
      | some x => rw [show E b = E' b from h 0 x rfl]
    rw [h1]
    exact cont_congr fun j y hj => by have := h (j + 1) y (by simpa using hj); rwa [show b + (j + 1) = b + 1 + j by omega] at this
theorem cont_none : ∀ {l : List (Option β)} {E : Nat → Bool} {b : Nat} {c : Option β}, (∀ j x, l[j]? = some (some x) → E (b + j) = false) → cont l E b c = c
  | [], _, _, _, _ => rfl
  | x :: r, E, b, c, h => by
    unfold cont
    have h1 : (bif E b then x.or c else c) = c := by
      cases x with
      | none => cases E b <;> rfl
      | some x => rw [show E b = false from h 0 x rfl]; rfl
    rw [h1]
    exact cont_none fun j y hj => by have := h (j + 1) y (by simpa using hj); rwa [show b + (j + 1) = b + 1 + j by omega] at this
theorem cont_add : ∀ {l : List (Option β)} {E E' : Nat → Bool} {b : Nat} {c : Option β} {i : Nat} {x : Option β}, l[i]? = some x → E' (b + i) = true → (∀ j, j ≠ b + i → E' j = E j) → (x.isSome = true → ∀ j y, i < j → l[j]? = some (some y) → E (b + j) = false) → E (b + i) = false → cont l E' b c = x.or (cont l E b c)
  | [], _, _, _, _, _, _, h, _, _, _, _ => by simp at h
  | z :: r, E, E', b, c, 0, x, h, h1, h2, h3, h4 => by
    simp at h
    subst h
    unfold cont
    simp only [Nat.add_zero] at h1 h4
    rw [h1, h4, cond_true, cond_false]
    have e : cont r E' (b + 1) (z.or c) = cont r E (b + 1) (z.or c) := cont_congr fun j y _ => h2 _ (by omega)
    rw [e]
    cases z with
    | none => rfl
    | some z =>
      have h5 := h3 rfl
      have h6 : ∀ c, cont r E (b + 1) c = c := fun c => cont_none fun j y hj => by
        have := h5 (j + 1) y (by omega) (by simpa using hj)
        rwa [show b + (j + 1) = b + 1 + j by omega] at this
      rw [h6, h6]
  | z :: r, E, E', b, c, i + 1, x, h, h1, h2, h3, h4 => by
    simp at h
    unfold cont
    rw [h2 b (by omega)]
    refine cont_add h (by rw [← h1]; congr 1; omega) (fun j hj => h2 j (by omega)) (fun hx j y hij hj => ?_) (by rw [← h4]; congr 1; omega)
    have := h3 hx (j + 1) y (by omega) (by simpa using hj)
    rwa [show b + (j + 1) = b + 1 + j by omega] at this
end

theorem getS_app : ∀ (U l : List (Nat × PV)) (t : Nat), getS (U ++ l) t = (getS U t).or (getS l t)
  | [], l, t => by simp [getS]
  | (k, p) :: r, l, t => by
    rw [List.cons_append, getS_cons, getS_cons]
    split
    · rfl
    · exact getS_app r l t
theorem look_app (V l : List (Nat × Ob)) (id : Nat) : look (V.foldr (fun x l => putO x.1 x.2 l) l) id = (look V id).or (look l id) := by
  induction V with
  | nil => simp [look]
  | cons x r ih =>
    obtain ⟨k, o⟩ := x
    rw [List.foldr_cons, look_putO]
    simp only [look]
    by_cases h : id = k
    · simp [h]
    · simp only [h, if_false]; exact ih
theorem getS_keys {U : List (Nat × PV)} {t : Nat} : (getS U t).isSome = true ↔ t ∈ U.map (·.1) := by
  induction U with
  | nil => simp [getS]
  | cons x r ih =>
    obtain ⟨k, p⟩ := x
    rw [getS_cons]
    by_cases h : k = t
    · simp [h]
    · simp [h, ih, Ne.symm h]
theorem look_keys {V : List (Nat × Ob)} {t : Nat} : (look V t).isSome = true ↔ t ∈ V.map (·.1) := by
  induction V with
  | nil => simp [look]
  | cons x r ih =>
    obtain ⟨k, p⟩ := x
    simp only [look]
    by_cases h : t = k
    · simp [h]
    · simp [h, ih]
theorem putO_mem {id k : Nat} {o ob : Ob} : ∀ {l : List (Nat × Ob)}, (k, o) ∈ putO id ob l → (k, o) = (id, ob) ∨ (k, o) ∈ l
  | [], h => by simp [putO] at h; exact .inl (by simp [h])
  | (j, p) :: r, h => by
    unfold putO at h
    split at h
    · rename_i e
      subst e
      rcases List.mem_cons.1 h with e2 | h2
      · exact .inl e2
      · exact .inr (List.mem_cons_of_mem _ h2)
    · split at h
      · rcases List.mem_cons.1 h with e2 | h2
        · exact .inl e2
        · exact .inr h2
      · rcases List.mem_cons.1 h with e2 | h2
        · exact .inr (by rw [e2]; simp)
        · rcases putO_mem h2 with h3 | h3
          · exact .inl h3
          · exact .inr (List.mem_cons_of_mem _ h3)
theorem app_mem {V l : List (Nat × Ob)} {k : Nat} {o : Ob} (h : (k, o) ∈ V.foldr (fun x l => putO x.1 x.2 l) l) : (k, o) ∈ V ∨ (k, o) ∈ l := by
  induction V with
  | nil => exact .inr h
  | cons x r ih =>
    rw [List.foldr_cons] at h
    rcases putO_mem h with h1 | h1
    · exact .inl (by rw [h1]; simp)
    · rcases ih h1 with h2 | h2
      · exact .inl (List.mem_cons_of_mem _ h2)
      · exact .inr h2

/-- Nobody but some objects names an object. -/
def PState.aloneX (s : PState) (id : Nat) (ao : List Nat) : Bool := chkS id s.sl s.sl && s.objs.all (fun x => inL ao x.1 || !x.2.has id)
section
variable (P : Program) (ctx : Ctx)
def FLocal (o : Oper) (s : PState) (f : Ft) (e : Ef) : Prop :=
  ∀ s' : PState, s'.n = s.n → (∀ {x q}, readsX o x = true → s.ev x = some q → s'.ev x = some q) → (∀ {id ob}, id ∈ f.ro → look s.objs id = some ob → look s'.objs id = some ob) → (∀ id ∈ f.fr, s'.fresh id = true) → (∀ a ∈ f.al, (s'.junks a.2).aloneX a.1 f.ao = true) → Local P ctx o s' (s'.app e)
def Wd (ops : Array Oper) (o : Oper) (s : PState) : Prop := o.guard = none ∨ ∃ j b d, o.guard = some (j, b) ∧ (ops[j]?).bind (·.dst) = some d ∧ s.at d = some (.d (.v (.bool b)))
def Sk (ops : Array Oper) (o : Oper) (s : PState) : Prop := (∃ j b c d, o.guard = some (j, b) ∧ (ops[j]?).bind (·.dst) = some d ∧ s.at d = some (.d (.v (.bool c))) ∧ c ≠ b) ∨ ∃ j b d, o.guard = some (j, b) ∧ (ops[j]?).bind (·.dst) = some d ∧ s.at d = some .und
def okE (f : Ft) (e : Ef) : Bool := (e.U.map (·.1)).all (inL f.ws) && (e.V.map (·.1)).all (inL f.wo) && e.U.all (fun x => x.2.named f.nm) && e.V.all (fun x => x.2.named f.no)
def undE (o : Oper) : Ef := ⟨match o.dst with | some d => [(d, .und)] | none => [], []⟩

inductive PQe (ops : Array Oper) (Q : PState → Prop) : List Oper → List Ft → PState → Prop
  | fin {s t : PState} (h : Q t) (hs : Sub ctx s t) : PQe ops Q [] [] s
  | step {s : PState} {o : Oper} {rest : List Oper} {f : Ft} {fs : List Ft} {e : Ef} (hl : FLocal P ctx o s f e) (hg : Wd ops o s) (hk : okE f e = true) (h : PQe ops Q rest fs (s.app e)) : PQe ops Q (o :: rest) (f :: fs) s
  | skip {s : PState} {o : Oper} {rest : List Oper} {f : Ft} {fs : List Ft} (hg : Sk ops o s) (hk : okE f (undE o) = true) (h : PQe ops Q rest fs (s.app (undE o))) : PQe ops Q (o :: rest) (f :: fs) s

/-- What one operation does in the order of the text. -/
def Does (ops : Array Oper) (o : Oper) (s : PState) (f : Ft) (e : Ef) : Prop := okE f e = true ∧ ((FLocal P ctx o s f e ∧ Wd ops o s) ∨ (Sk ops o s ∧ e = undE o))
inductive Run (ops : Array Oper) : List Oper → List Ft → PState → List Ef → PState → Prop
  | nil {s : PState} : Run ops [] [] s [] s
  | cons {o : Oper} {rest : List Oper} {f : Ft} {fs : List Ft} {s t : PState} {e : Ef} {es : List Ef} (y : Does P ctx ops o s f e) (h : Run ops rest fs (s.app e) es t) : Run ops (o :: rest) (f :: fs) s (e :: es) t
end
section
variable {P : Program} {ctx : Ctx} {ops : Array Oper}
theorem PQe.run {Q : PState → Prop} {l : List Oper} {fs : List Ft} {s : PState} (h : PQe P ctx ops Q l fs s) : ∃ es t, Run P ctx ops l fs s es t ∧ ∃ u, Q u ∧ Sub ctx t u := by
  induction h with
  | fin h hs => exact ⟨[], _, .nil, _, h, hs⟩
  | step hl hg hk _ ih => obtain ⟨es, t, h1, h2⟩ := ih; exact ⟨_, t, .cons ⟨hk, .inl ⟨hl, hg⟩⟩ h1, h2⟩
  | skip hg hk _ ih => obtain ⟨es, t, h1, h2⟩ := ih; exact ⟨_, t, .cons ⟨hk, .inr ⟨hg, rfl⟩⟩ h1, h2⟩

def predsOf (ops : List Oper) : List (List Nat) := ops.foldl (fun acc o => acc ++ [o.after.toList.foldl (fun l e => bif Region.binds .any e then e.on :: ((acc[e.on]?).getD [] ++ l) else l) []]) []
def meets (a b : List Nat) : Bool := a.any (inL b)
/-- Must the operation with the first footprint (the earlier one) come ahead of the other one? -/
def clash (f g : Ft) (rf rg : List Nat) : Bool :=
  meets f.ws g.ws || meets f.ws rg || meets rf g.ws || meets f.wo g.wo || meets f.wo g.ro || meets f.ro g.wo ||
  meets f.fr g.nm || meets f.fr g.no || meets f.fr g.wo || meets f.fr g.fr || (f.al.any fun a => inL g.nm a.1) || (g.al.any fun a => inL f.nm a.1) || (f.al.any fun a => inL g.no a.1)
/-- May they never stand so? -/
def never (f g : Ft) : Bool := meets g.fr f.nm || meets g.fr f.no || meets g.fr f.wo || (g.al.any fun a => inL f.no a.1 || (inL f.nm a.1 && !f.ws.all (inL a.2)))
def readsOf (ops : Array Oper) (i : Nat) : List Nat := match ops[i]? with | some o => o.looksAt ops | none => []
end
end Go.Ep
namespace Go.Ep
open Go.RowKit
section
variable {P : Program} {ctx : Ctx} {ops : Array Oper}
structure DrawFacts (ops : Array Oper) (fs : List Ft) : Prop where
  len : fs.length = ops.size
  edge : ∀ {i : Nat} {o : Oper}, ops[i]? = some o → ∀ e : Edge, e ∈ o.after → Region.binds .any e = true → e.on < i
  fro : ∀ {j : Nat} {g : Ft}, fs[j]? = some g → ∀ id ∈ g.fr, id ∉ g.ro
  pair : ∀ {i j : Nat} {f g : Ft}, i < j → fs[i]? = some f → fs[j]? = some g → never f g = false ∧ (clash f g (readsOf ops i) (readsOf ops j) = true → i ∈ ((predsOf ops.toList)[j]?).getD [])
/-- Whatever has been carried out, all that must come ahead of it has been, too. -/
def DownC (ops : Array Oper) (E : Nat → Bool) : Prop := ∀ j, E j = true → ∀ k ∈ ((predsOf ops.toList)[j]?).getD [], E k = true
/-- Behind the operations of E. -/
structure InvE (s0 : PState) (es : List Ef) (E : Nat → Bool) (s : PState) : Prop where
  n : s.n = s0.n
  sl : ∀ t, getS s.sl t = cont (es.map fun e => getS e.U t) E 0 (getS s0.sl t)
  ob : ∀ id, look s.objs id = cont (es.map fun e => look e.V id) E 0 (look s0.objs id)
  ms : ∀ x ∈ s.sl, x ∈ s0.sl ∨ ∃ j e, E j = true ∧ es[j]? = some e ∧ x ∈ e.U
  mo : ∀ x ∈ s.objs, x ∈ s0.objs ∨ ∃ j e, E j = true ∧ es[j]? = some e ∧ x ∈ e.V
theorem InvE.zero {s0 : PState} {es : List Ef} {E : Nat → Bool} (h : ∀ j, E j = false) : InvE s0 es E s0 :=
  ⟨rfl, fun _ => (cont_none fun _ _ _ => h _).symm, fun _ => (cont_none fun _ _ _ => h _).symm, fun _ h => .inl h, fun _ h => .inl h⟩
theorem InvE.step {s0 s : PState} {es : List Ef} {E E' : Nat → Bool} (h : InvE s0 es E s) {i : Nat} {e : Ef} (hi : es[i]? = some e) (h0 : E i = false) (h1 : E' i = true) (hE : ∀ j, j ≠ i → E' j = E j)
    (hU : ∀ j e', i < j → es[j]? = some e' → E j = true → ∀ t, t ∈ e.U.map (·.1) → t ∉ e'.U.map (·.1)) (hV : ∀ j e', i < j → es[j]? = some e' → E j = true → ∀ t, t ∈ e.V.map (·.1) → t ∉ e'.V.map (·.1)) : InvE s0 es E' (s.app e) := by
  have hlt : ∀ j, E j = true → j ≠ i := fun j hj e => by rw [e, h0] at hj; cases hj
  refine ⟨h.n, fun t => ?_, fun id => ?_, fun x hx => ?_, fun x hx => ?_⟩
  · show getS (e.U ++ s.sl) t = _
    rw [getS_app, h.sl]
    refine (cont_add (i := i) (by simp [hi]) (by simpa using h1) (fun j hj => hE j (by simpa using hj)) (fun hx j y hij hj => ?_) (by simpa using h0)).symm
    rw [Nat.zero_add]
    cases hb : E j with
    | false => rfl
    | true =>
      rw [List.getElem?_map] at hj
      cases he : es[j]? with
      | none => rw [he] at hj; cases hj
      | some e' =>
        rw [he] at hj
        simp only [Option.map_some, Option.some.injEq] at hj
        exact absurd (getS_keys.1 (by rw [hj]; rfl)) (hU j e' hij he hb t (getS_keys.1 hx))
  · show look (e.V.foldr _ s.objs) id = _
    rw [look_app, h.ob]
    refine (cont_add (i := i) (by simp [hi]) (by simpa using h1) (fun j hj => hE j (by simpa using hj)) (fun hx j y hij hj => ?_) (by simpa using h0)).symm
    rw [Nat.zero_add]
    cases hb : E j with
    | false => rfl
    | true =>
      rw [List.getElem?_map] at hj
      cases he : es[j]? with
      | none => rw [he] at hj; cases hj
      | some e' =>
        rw [he] at hj
        simp only [Option.map_some, Option.some.injEq] at hj
        exact absurd (look_keys.1 (by rw [hj]; rfl)) (hV j e' hij he hb id (look_keys.1 hx))
  · rcases List.mem_append.1 hx with hx | hx
    · exact .inr ⟨i, e, h1, hi, hx⟩
    · rcases h.ms x hx with h2 | ⟨j, e', a, b, c⟩
      · exact .inl h2
      · exact .inr ⟨j, e', by rw [hE j (hlt j a)]; exact a, b, c⟩
  · rcases app_mem (k := x.1) (o := x.2) hx with hx | hx
    · exact .inr ⟨i, e, h1, hi, hx⟩
    · rcases h.mo x hx with h2 | ⟨j, e', a, b, c⟩
      · exact .inl h2
      · exact .inr ⟨j, e', by rw [hE j (hlt j a)]; exact a, b, c⟩

/-- An operation, carried out where all that it looks at is what it was in the order of the text. -/
theorem Does.run {o : Oper} {s s' : PState} {f : Ft} {e : Ef} (y : Does P ctx ops o s f e) (hn : s'.n = s.n) (hl : ∀ t, t ∈ o.looksAt ops → getS s'.sl t = getS s.sl t) (ho : ∀ id ∈ f.ro, look s'.objs id = look s.objs id)
    (hf : ∀ id ∈ f.fr, s'.fresh id = true) (ha : ∀ a ∈ f.al, (s'.junks a.2).aloneX a.1 f.ao = true) {i : Nat} (hi : ops[i]? = some o) {a : Act} {w : World} (hr : Rel ctx s' a w) {K : Act → World → Prop} {Qx : Exit → Act → World → Prop}
    (hK : ∀ a' w', Rel ctx (s'.app e) a' w' → K a' w') : wpOp P ops Qx i K a w := by
  have hat : ∀ t, t ∈ o.looksAt ops → s'.at t = s.at t := fun t ht => by rw [at_eq, at_eq, hn, hl t ht]
  have hund : s'.app (undE o) = s'.putD o.dst .und := by unfold undE; cases o.dst <;> rfl
  unfold wpOp
  simp only [hi]
  rcases y.2 with ⟨hd, hg⟩ | ⟨hg, rfl⟩
  · have hloc : Local P ctx o s' (s'.app e) := by
      refine hd s' hn (fun {x q} hx hq => ?_) (fun {id ob} hid h => by rw [ho id hid]; exact h) hf ha
      cases x with
      | tmp t =>
        show s'.at t = some q
        rw [hat t ?_]
        · exact hq
        · simp only [readsX, List.any_eq_true] at hx
          obtain ⟨x, hx1, hx2⟩ := hx
          unfold Oper.looksAt
          refine List.mem_append_left _ (List.mem_filterMap.2 ⟨x, hx1, ?_⟩)
          cases x with
          | tmp u => simp only at hx2; rw [Nat.eq_of_beq_eq_true hx2]
          | _ => simp at hx2
      | const v => cases v <;> exact hq
      | func f => exact hq
      | global g => exact hq
    have hw : Region.wanted o (yielded ops a.tmps) = true := by
      rcases hg with hg | ⟨j, b, d, hg, hd2, hs⟩
      · simp [Region.wanted, hg]
      · obtain ⟨g, hrg⟩ := hr
        have hs' : s'.at d = some (.d (.v (.bool b))) := by
          rw [hat d (by unfold Oper.looksAt; rw [hg]; refine List.mem_append_right _ ?_; simp [hd2])]; exact hs
        simp [Region.wanted, hg, yielded_of hrg hd2 hs']
    rw [if_pos hw]
    exact .inl (hloc a w hr K Qx hK)
  · rw [hund] at hK
    obtain ⟨g, hrg⟩ := hr
    rcases hg with ⟨j, b, c, d, hg, hd, hs, hbc⟩ | ⟨j, b, d, hg, hd, hs⟩
    · have hs' : s'.at d = some (.d (.v (.bool c))) := by
        rw [hat d (by unfold Oper.looksAt; rw [hg]; refine List.mem_append_right _ ?_; simp [hd])]; exact hs
      have hw : Region.wanted o (yielded ops a.tmps) = false := by simp [Region.wanted, hg, yielded_of hrg hd hs', hbc]
      rw [hw]
      exact hK _ _ ⟨g, hrg.put o.dst Rd.und⟩
    · have hs' : s'.at d = some .und := by
        rw [hat d (by unfold Oper.looksAt; rw [hg]; refine List.mem_append_right _ ?_; simp [hd])]; exact hs
      have hw : Region.wanted o (yielded ops a.tmps) = false := by simp [Region.wanted, hg, yielded_und hrg hd hs']
      rw [hw]
      exact hK _ _ ⟨g, hrg.put o.dst Rd.und⟩

theorem Run.at_ : ∀ {rest : List Oper} {fs : List Ft} {s t s0 : PState} {es pre all : List Ef} {b : Nat}, Run P ctx ops rest fs s es t → all = pre ++ es → pre.length = b → InvE s0 all (fun j => decide (j < b)) s →
    (∀ (i : Nat) (o : Oper) (f : Ft), rest[i]? = some o → fs[i]? = some f → ∃ S e, all[b + i]? = some e ∧ InvE s0 all (fun j => decide (j < b + i)) S ∧ Does P ctx ops o S f e) ∧ InvE s0 all (fun j => decide (j < b + rest.length)) t := by
  intro rest
  induction rest with
  | nil =>
    intro fs s t s0 es pre all b h _ _ hh
    cases h
    exact ⟨by simp, by simpa using hh⟩
  | cons o rest ih =>
    intro fs s t s0 es pre all b h hall hb hh
    cases h with
    | @cons _ _ f fs _ _ e es y h =>
      have he : all[b]? = some e := by subst hall; subst hb; simp
      have hst : InvE s0 all (fun j => decide (j < b + 1)) (s.app e) := hh.step he (by simp) (by simp) (fun j hj => by
        have : (j < b + 1) = (j < b) := by apply propext; omega
        simp only [this]) (fun j _ hj _ hE => by simp at hE; omega) (fun j _ hj _ hE => by simp at hE; omega)
      obtain ⟨h1, h2⟩ := ih (b := b + 1) (pre := pre ++ [e]) h (by simp [hall]) (by simp [hb]) hst
      refine ⟨fun i o' f' ho hf => ?_, by rw [List.length_cons, show b + (rest.length + 1) = b + 1 + rest.length by omega]; exact h2⟩
      cases i with
      | zero => simp at ho hf; subst ho; subst hf; exact ⟨s, e, he, hh, y⟩
      | succ i =>
        simp at ho hf
        obtain ⟨S, q, e1, e2, e3⟩ := h1 i o' f' ho hf
        exact ⟨S, q, by rw [← e1]; congr 1; omega, by rw [show b + (i + 1) = b + 1 + i by omega]; exact e2, e3⟩

theorem DrawFacts.ahead {fs : List Ft} (F : DrawFacts ops fs) {E : Nat → Bool} (h : DownC ops E) {i j : Nat} {f g : Ft} (hij : i < j) (hi : fs[i]? = some f) (hj : fs[j]? = some g) (hc : clash f g (readsOf ops i) (readsOf ops j) = true) (hE : E j = true) : E i = true :=
  h j hE i ((F.pair hij hi hj).2 hc)

end
end Go.Ep

namespace Go.Ep
open Go.RowKit
section
variable {P : Program} {ctx : Ctx} {ops : Array Oper} {Q : PState → Prop}
def dstL (d : Option Nat) (p : PV) : List (Nat × PV) := match d with | some d => [(d, p)] | none => []
theorem junks_sl (js : List Nat) : ∀ s : PState, (s.junks js).sl = (js.map fun t => (t, PV.junk)).reverse ++ s.sl := by
  induction js with
  | nil => intro s; rfl
  | cons d r ih => intro s; rw [PState.junks, ih]; simp [PState.put]
theorem junks_n (js : List Nat) : ∀ s : PState, (s.junks js).n = s.n := by
  induction js with
  | nil => intro s; rfl
  | cons d r ih => intro s; rw [PState.junks, ih]; rfl
variable {s : PState} {o : Oper} {rest : List Oper} {f : Ft} {fs : List Ft}
theorem PQe.nil (h : Q s) : PQe P ctx ops Q [] [] s := .fin h (Sub.refl _)
theorem Same.app {s t : PState} (h : Same s t) (e : Ef) : Same (s.app e) (t.app e) := by
  refine ⟨h.1, fun i => ?_, ?_⟩
  · have h2 := h.2.1 i
    rw [at_eq, at_eq] at h2 ⊢
    show (if i < s.n then getS (e.U ++ s.sl) i else none) = if i < t.n then getS (e.U ++ t.sl) i else none
    rw [getS_app, getS_app]
    rw [h.1] at h2 ⊢
    by_cases hi : i < t.n
    · simp only [hi, if_true] at h2 ⊢; rw [h2]
    · simp only [hi, if_false]
  · show e.V.foldr _ s.objs = e.V.foldr _ t.objs
    rw [h.2.2]
theorem PQe.same {l : List Oper} {fs : List Ft} {t : PState} (h : PQe P ctx ops Q l fs t) : ∀ {s : PState}, Same s t → PQe P ctx ops Q l fs s := by
  induction h with
  | fin h hs => intro s he; exact .fin h (Sub.trans he.sub hs)
  | step hl hg hk _ ih =>
    intro s he
    refine .step (fun s' hn h1 h2 h3 h4 => hl s' (hn.trans he.1) (fun hx hq => h1 hx (by rw [he.ev]; exact hq)) (fun hi ho => h2 hi (by rw [he.2.2]; exact ho)) h3 h4) ?_ hk (ih (he.app _))
    rcases hg with hg | ⟨j, b, d, h5, h6, h7⟩
    · exact .inl hg
    · exact .inr ⟨j, b, d, h5, h6, by rw [he.2.1]; exact h7⟩
  | skip hg hk _ ih =>
    intro s he
    refine .skip ?_ hk (ih (he.app _))
    rcases hg with ⟨j, b, c, d, h5, h6, h7, h8⟩ | ⟨j, b, d, h5, h6, h7⟩
    · exact .inl ⟨j, b, c, d, h5, h6, by rw [he.2.1]; exact h7, h8⟩
    · exact .inr ⟨j, b, d, h5, h6, by rw [he.2.1]; exact h7⟩
theorem PQe.split {d : Nat} {b : Bool} (hs : s.at d = some (.d (.v (.bool b)))) (ht : b = true → PQe P ctx ops Q rest fs (s.put d (.d (.v (.bool true))))) (hf : b = false → PQe P ctx ops Q rest fs (s.put d (.d (.v (.bool false))))) : PQe P ctx ops Q rest fs s := by
  have e : Same s (s.put d (.d (.v (.bool b)))) := by
    refine ⟨rfl, fun i => ?_, rfl⟩
    rw [put_at_eq]
    by_cases hi : i < s.n
    · rw [if_pos hi]
      by_cases hd : d = i
      · subst hd; rw [if_pos rfl]; exact hs
      · rw [if_neg hd]
    · rw [if_neg hi, at_eq, if_neg hi]
  cases b with
  | true => exact (ht rfl).same e
  | false => exact (hf rfl).same e
end
end Go.Ep

namespace Go.Ep
open Go.RowKit
section
variable {P : Program} {ctx : Ctx} {Q : PQ} {s : PState}
variable {dst : Option Tmp} {ty : TypeId} {pos : String} {after : Array Edge} {gd : Option (Nat × Bool)}

section
variable {x kx : Operand} {t kt et : TypeId} {ks : List IntKind} {m : List (List Int × Value)} {ns : List Int} {bs : List Nat} {ck id : Nat} {ov : Option (Nat × PV)}
variable (hu : P.underlying t = some (.map kt et)) (K : KeyOK P kt ks) (hx : s.ev x = some (.mp id)) (hl : look s.objs id = some (.mapP ks m ov bs ck)) (hk : s.ev kx = some (keyP ks ns)) (hn : ns.length = ks.length)
include hu K hx hl hk hn
omit hu K hx hl hk hn in
end
end

section
variable {P : Program} {ctx : Ctx} {ops : Array Oper} {Q : PState → Prop} {s : PState}
variable {dst : Option Tmp} {ty : TypeId} {pos : String} {after : Array Edge} {gd : Option (Nat × Bool)}
theorem Local.post {o : Oper} {t u : PState} (h : Local P ctx o s t) (hs : Sub ctx t u) : Local P ctx o s u := fun a w hr K Qx hK => h a w hr K Qx fun a' w' h' => hK a' w' (hs a' w' h')
theorem Local.pre {o : Oper} {t u : PState} (hs : Sub ctx s t) (h : Local P ctx o t u) : Local P ctx o s u := fun a w hr K Qx hK => h a w (hs a w hr) K Qx hK
section
variable {α : Type} {enc : α → List DV} {L R : List α} {x y : Operand} {id mid m k bs' : Nat} {t t' e e' : TypeId} {ks : List IntKind} {mm : List (List Int × Value)} {j : Nat} {p : PV} {bs : List Nat} {ck : Nat}
end
end
end Go.Ep

namespace Go.Ep
open Go.RowKit

/-- A row that an entry names. -/
def RowAt (w : World) (e : TypeId) (k : Nat) (l : List (List DV)) : Option (Nat × Nat) → Value → Prop
  | none, v => l = [] ∧ v = .slice none 0 0
  | some (b, cap), v => v = .slice (some ⟨b, 0, none⟩) l.length cap ∧ ∃ cur : List Value, w.heap[b]? = some (.cells cur.toArray e (0, 0)) ∧ l.length ≤ cap ∧ cap ≤ maxLen ∧ cur.length = cap * k ∧ (∀ (i : Nat) (cs : List DV), l[i]? = some cs → cs.length = k) ∧
      ∀ (i : Nat) (cs : List DV) (j : Nat) (x : DV), l[i]? = some cs → cs[j]? = some x → ∃ u, cur[i * k + j]? = some u ∧ x = .v u ∧ u.oneCell' = true
def PlainL (l : List (List DV)) : Prop := ∀ cs ∈ l, ∀ x ∈ cs, ∃ u, x = DV.v u
abbrev RowsM := List (List Int × List (List DV))
def rowsM (R : RowsM) : Mp := R.map fun p => (p.1, [DV.sl p.2])
/-- The blocks for data, beside the rows. -/
def Dt (ctx : Ctx) (mb : Nat) (blk : Nat → Option (Nat × Nat)) (b : Nat) : Prop := (ctx.S b ∨ ctx.w0.heap.size ≤ b) ∧ b ≠ mb ∧ ∀ i c, blk i ≠ some (b, c)

structure RelT (ctx : Ctx) (ks : List IntKind) (e : TypeId) (k mid n : Nat) (sl : List (Nat × PV)) (R : RowsM) (a : Act) (w : World) (g : Ghost) (mb : Nat) (blk : Nat → Option (Nat × Nat)) (es : Array MapEntry) (ck : Nat) : Prop where
  defers : a.defers = []
  size : a.tmps.size = n
  slots : ∀ i p, (PState.mk n sl []).at i = some p → Rd w g (Dt ctx mb blk) p (a.tmps.getD i undef)
  gm : ∃ q, g mid = some (mb, q)
  lt : mb < w.heap.size ∧ (ctx.w0.heap.size ≤ mb ∨ ctx.K mb)
  hh : w.heap[mb]? = some (.map es ck)
  sz : es.size = R.length
  below : ∀ b ∈ es.toList.map (·.born), b < ck
  nodup : (es.toList.map (·.born)).Nodup
  ent : ∀ (i : Nat) (ns : List Int) (l : List (List DV)), R[i]? = some (ns, l) → ∃ x, es[i]? = some x ∧ x.key = keyV ks ns ∧ ns.length = ks.length ∧ RowAt w e k l (blk i) x.val
  inj : ∀ i j b c c', blk i = some (b, c) → blk j = some (b, c') → i = j
  own : ∀ i b c, blk i = some (b, c) → b < w.heap.size ∧ (ctx.w0.heap.size ≤ b ∨ ctx.K b) ∧ b ≠ mb
  out : ∀ i, R.length ≤ i → blk i = none
  os : w.os = ctx.w0.os
  tape : w.tape = ctx.w0.tape
  output : w.output = ctx.w0.output
  grows : ctx.w0.heap.size ≤ w.heap.size
  keep : ∀ q, q < ctx.w0.heap.size → ¬ ctx.K q → w.heap[q]? = ctx.w0.heap[q]?

theorem at_mem {n : Nat} {sl : List (Nat × PV)} {o : List (Nat × Ob)} {i : Nat} {p : PV} (h : (PState.mk n sl o).at i = some p) : (i, p) ∈ sl := getS_mem (at_get h)

theorem rd_row {w : World} {g : Ghost} {S : Nat → Prop} {id n : Nat} {u : Value} (h : Rd w g S (.row id n) u) : (∃ b c, g id = some (b, c) ∧ u = .slice (some ⟨b, 0, none⟩) n c) ∨ (g id = none ∧ n = 0 ∧ u = .slice none 0 0) := by
  cases h with
  | row _ _ b c h => exact .inl ⟨b, c, h, rfl⟩
  | rowNil _ h => exact .inr ⟨h, rfl, rfl⟩
section
variable {ctx : Ctx} {ks : List IntKind} {e : TypeId} {k mid n : Nat} {sl : List (Nat × PV)} {a : Act} {w : World} {g : Ghost}
theorem RelT.start {bs0 : List Nat} {ck0 : Nat} (h : RelG ctx g ⟨n, sl, [(mid, .map ks false [] bs0 ck0)]⟩ a w) : ∃ mb es ck, RelT ctx ks e k mid n sl [] a w g mb (fun _ => none) es ck := by
  have hl : look [(mid, Ob.map ks false [] bs0 ck0)] mid = some (.map ks false [] bs0 ck0) := by simp [look]
  cases h.objs mid _ hl with
  | map _ _ _ _ _ blk q es hg hh hm =>
    refine ⟨blk, es, ck0, h.defers, h.size, fun i p hp => ?_, ⟨q, hg⟩, h.own mid _ blk q hl hg, hh, hm.size, by rw [← hm.stamps]; exact hm.below, by rw [← hm.stamps]; exact hm.nodup, (fun i ns l hi => by simp at hi), (fun i j b c c' hi => by cases hi), (fun i b c hi => by cases hi), fun _ _ => rfl, h.os, h.tape, h.output, h.grows, h.keep⟩
    refine (h.slots i p hp).keep ⟨Nat.le_refl _, fun _ _ _ => rfl⟩ (fun b hb _ => ⟨hb.1, fun eb => ?_, fun i c hc => by cases hc⟩) (fun _ _ => rfl)
    subst eb
    exact hb.2 mid _ q hl hg
theorem cell_cur {b : Nat} {cur : List Value} (hh : w.heap[b]? = some (.cells cur.toArray e (0, 0))) (o : Nat) : w.cell? ⟨b, o, none⟩ = cur[o]? := cell_of_heap hh o
theorem RelT.done {R : RowsM} {mb : Nat} {blk : Nat → Option (Nat × Nat)} {es : Array MapEntry} {ck : Nat} (hK : ∀ b, ctx.K b → ctx.S b) (h : RelT ctx ks e k mid n sl R a w g mb blk es ck) : RelG ctx g ⟨n, sl, [(mid, .map ks false (rowsM R) (es.toList.map (·.born)) ck)]⟩ a w := by
  obtain ⟨q, hg⟩ := h.gm
  have hlk : ∀ id o, look [(mid, Ob.map ks false (rowsM R) (es.toList.map (·.born)) ck)] id = some o → id = mid := fun id o ho => by
    simp only [look] at ho
    split at ho
    · assumption
    · cases ho
  have hfree : ∀ b, (ctx.S b ∨ ctx.w0.heap.size ≤ b) → b ≠ mb → Free ctx g [(mid, Ob.map ks false (rowsM R) (es.toList.map (·.born)) ck)] b := fun b h1 h2 => ⟨h1, fun id o m ho hgi => by
    rw [hlk id o ho, hg] at hgi; cases hgi; exact h2 rfl⟩
  refine ⟨h.defers, h.size, fun i p hp => ?_, fun id o ho => ?_, fun i j oi oj b m m' hi hj _ _ => by rw [hlk i oi hi, hlk j oj hj], fun id o b m ho hgi => ?_, h.os, h.tape, h.output, h.grows, h.keep⟩
  · exact (h.slots i p hp).keep ⟨Nat.le_refl _, fun _ _ _ => rfl⟩ (fun b hb _ => hfree b hb.1 hb.2.1) (fun _ _ => rfl)
  · have hid := hlk id o ho
    subst hid
    simp only [look, if_true] at ho
    cases ho
    refine .map ks false _ _ ck mb q es hg h.hh ⟨by simp [rowsM, h.sz], rfl, h.below, h.nodup, fun i ns cs hi => ?_⟩
    unfold rowsM at hi
    rw [List.getElem?_map] at hi
    cases hR : R[i]? with
    | none => rw [hR] at hi; cases hi
    | some r =>
      obtain ⟨ns', l⟩ := r
      rw [hR] at hi
      simp only [Option.map_some, Option.some.injEq, Prod.mk.injEq] at hi
      obtain ⟨rfl, rfl⟩ := hi
      obtain ⟨x, h1, h2, h3, h4⟩ := h.ent i _ l hR
      have hd : DRd w (Free ctx g [(id, Ob.map ks false (rowsM R) (es.toList.map (·.born)) ck)]) (.sl l) x.val := by
        cases hb : blk i with
        | none =>
          rw [hb] at h4
          obtain ⟨rfl, hv⟩ := h4
          rw [hv]
          exact .nil none 0 (Nat.zero_le _) (fun _ => rfl)
        | some bc =>
          obtain ⟨b, cap⟩ := bc
          rw [hb] at h4
          obtain ⟨hv, cur, hc, hlc, hcap, hcl, hkk, hr⟩ := h4
          rw [hv]
          obtain ⟨o1, o2, o3⟩ := h.own i b cap hb
          refine .sl l b 0 cap k (fun i j => cur.getD (i * k + j) undef) hlc hcap (hfree b (o2.elim .inr fun q => .inl (hK b q)) o3) o1 hkk (fun i' j' hi' hj' => ?_) fun i' cs j' x' hi' hx' => ?_
          · rw [cell_cur hc, Nat.zero_add]
            have : i' * k + j' < cur.length := by rw [hcl]; exact idx_lt (by omega) hj'
            simp [List.getD, this]
          · obtain ⟨u, hu, rfl, h1⟩ := hr i' cs j' x' hi' hx'
            simp only [List.getD, hu, Option.getD_some]
            exact .v u h1
      refine ⟨x, [x.val], h1, h2, rfl, rfl, fun _ => rfl, fun u hu => by rw [List.mem_singleton] at hu; rw [hu]; exact hd.one, h3, fun j y u hy hu => ?_⟩
      cases j with
      | zero => simp at hy hu; subst hy; subst hu; exact hd
      | succ j => simp at hy
  · rw [hlk id o ho, hg] at hgi
    cases hgi
    exact h.lt

/-- The values of the entries. -/
def valsT (R : RowsM) (es : Array MapEntry) : List (List Int × Value) := List.zipWith (fun r x => (r.1, x.val)) R es.toList
theorem valsT_len {R : RowsM} {es : Array MapEntry} (h : es.size = R.length) : (valsT R es).length = R.length := by simp [valsT, h]
theorem valsT_fst {R : RowsM} {es : Array MapEntry} (h : es.size = R.length) : (valsT R es).map (·.1) = R.map (·.1) := by
  apply List.ext_getElem?
  intro i
  simp only [valsT, List.getElem?_map, List.getElem?_zipWith]
  cases hR : R[i]? with
  | none => simp
  | some r =>
    have : i < es.toList.length := by have := (List.getElem?_eq_some_iff.1 hR).1; simp; omega
    simp [List.getElem?_eq_getElem this]
theorem valsT_get {R : RowsM} {es : Array MapEntry} {i : Nat} {ns : List Int} {u : Value} (h : (valsT R es)[i]? = some (ns, u)) : ∃ l x, R[i]? = some (ns, l) ∧ es[i]? = some x ∧ x.val = u := by
  simp only [valsT, List.getElem?_zipWith] at h
  cases hR : R[i]? with
  | none => rw [hR] at h; cases h
  | some r =>
    cases hx : es.toList[i]? with
    | none => rw [hR, hx] at h; cases h
    | some x =>
      rw [hR, hx] at h
      simp only [Option.some.injEq, Prod.mk.injEq] at h
      exact ⟨r.2, x, by rw [← h.1], by simpa using hx, h.2⟩
theorem valsT_of {R : RowsM} {es : Array MapEntry} {i : Nat} {ns : List Int} {l : List (List DV)} {x : MapEntry} (h : R[i]? = some (ns, l)) (hx : es[i]? = some x) : (valsT R es)[i]? = some (ns, x.val) := by
  have hx' : es.toList[i]? = some x := by simpa using hx
  rw [valsT, List.getElem?_zipWith, h, hx']

/-- The call's world while a round is walked. -/
def ctxT (ctx : Ctx) (mb : Nat) (blk : Nat → Option (Nat × Nat)) (j : Nat) (w : World) : Ctx := ⟨w, Dt ctx mb blk, fun b => b = mb ∨ ∃ c, blk j = some (b, c)⟩

section
variable {R : RowsM} {mb : Nat} {blk : Nat → Option (Nat × Nat)} {es : Array MapEntry} {ck : Nat}
/-- In: the row that is touched, taken out. -/
theorem RelT.found (h : RelT ctx ks e k mid n sl R a w g mb blk es ck) (hnm : ∀ x ∈ sl, ∀ id, x.2.has id = true → id = mid) (hm : mid ≠ 50) {j : Nat} {ns : List Int} {l : List (List DV)} (hj : R[j]? = some (ns, l)) :
    RelG (ctxT ctx mb blk j w) (upd g 50 (blk j)) ⟨n, sl, [(mid, .mapP ks (valsT R es) (some (j, .row 50 l.length)) (es.toList.map (·.born)) ck), (50, .row e k l)]⟩ a w := by
  obtain ⟨q, hg⟩ := h.gm
  have hgm : upd g 50 (blk j) mid = some (mb, q) := by rw [upd_ne hm]; exact hg
  have hg5 : upd g 50 (blk j) 50 = blk j := upd_same _ _ _
  have hlk : ∀ id o, look [(mid, Ob.mapP ks (valsT R es) (some (j, .row 50 l.length)) (es.toList.map (·.born)) ck), (50, Ob.row e k l)] id = some o → (id = mid ∧ o = .mapP ks (valsT R es) (some (j, .row 50 l.length)) (es.toList.map (·.born)) ck) ∨ (id = 50 ∧ o = .row e k l) := fun id o ho => by
    simp only [look] at ho
    split at ho
    · cases ho; exact .inl ⟨by assumption, rfl⟩
    · split at ho
      · cases ho; exact .inr ⟨by assumption, rfl⟩
      · cases ho
  have hfree : ∀ b, Dt ctx mb blk b → Free (ctxT ctx mb blk j w) (upd g 50 (blk j)) [(mid, Ob.mapP ks (valsT R es) (some (j, .row 50 l.length)) (es.toList.map (·.born)) ck), (50, Ob.row e k l)] b := fun b hb => ⟨.inl hb, fun id o m ho hgi => by
    rcases hlk id o ho with ⟨rfl, _⟩ | ⟨rfl, _⟩
    · rw [hgm] at hgi; cases hgi; exact hb.2.1 rfl
    · rw [hg5] at hgi; exact hb.2.2 j m hgi⟩
  obtain ⟨x, h1, h2, h3, h4⟩ := h.ent j ns l hj
  refine ⟨h.defers, h.size, fun i p hp => ?_, fun id o ho => ?_, fun i i' oi oj b m m' hi hi' hgi hgj => ?_, fun id o b m ho hgi => ?_, rfl, rfl, rfl, Nat.le_refl _, fun _ _ _ => rfl⟩
  · exact (h.slots i p hp).keep ⟨Nat.le_refl _, fun _ _ _ => rfl⟩ (fun b hb _ => hfree b hb) (fun id hid => by rw [hnm _ (at_mem hp) id hid, hgm, hg])
  · rcases hlk id o ho with ⟨rfl, rfl⟩ | ⟨rfl, rfl⟩
    · refine .mapP ks _ _ _ ck mb q es hgm h.hh (by rw [valsT_len h.sz, h.sz]) rfl h.below h.nodup (fun i ns' u hi => ?_) fun j' p hjp => ?_
      · obtain ⟨l', x', r1, r2, r3⟩ := valsT_get hi
        obtain ⟨x2, s1, s2, s3, s4⟩ := h.ent i ns' l' r1
        rw [r2] at s1; cases s1
        refine ⟨x', r2, s2, s3, ?_, fun _ => r3⟩
        cases hb : blk i with
        | none => rw [hb] at s4; rw [s4.2]; rfl
        | some bc => obtain ⟨b, c⟩ := bc; rw [hb] at s4; rw [s4.1]; rfl
      · cases hjp
        refine ⟨x, h1, ?_⟩
        cases hb : blk j with
        | none => rw [hb] at h4; obtain ⟨rfl, hv⟩ := h4; rw [hv]; exact .rowNil 50 (upd_same _ _ _)
        | some bc => obtain ⟨b, c⟩ := bc; rw [hb] at h4; rw [h4.1]; exact .row 50 _ b c (upd_same _ _ _)
    · cases hb : blk j with
      | none => rw [hb] at h4; obtain ⟨rfl, hv⟩ := h4; exact .rowNil e k (upd_same _ _ _)
      | some bc =>
        obtain ⟨b, c⟩ := bc
        rw [hb] at h4
        obtain ⟨hv, cur, hc, hlc, hcap, hcl, hkk, hr⟩ := h4
        refine .row e k l b c cur (upd_same _ _ _) hc hlc hcap hcl hkk fun i' cs j' x' hi' hx' => ?_
        obtain ⟨u, hu, rfl, ho1⟩ := hr i' cs j' x' hi' hx'
        exact ⟨u, hu, .v u ho1⟩
  · rcases hlk i oi hi with ⟨rfl, _⟩ | ⟨rfl, _⟩ <;> rcases hlk i' oj hi' with ⟨rfl, _⟩ | ⟨rfl, _⟩
    · rfl
    · rw [hgm] at hgi; cases hgi; rw [hg5] at hgj; exact ((h.own j _ _ hgj).2.2 rfl).elim
    · rw [hgm] at hgj; cases hgj; rw [hg5] at hgi; exact ((h.own j _ _ hgi).2.2 rfl).elim
    · rfl
  · rcases hlk id o ho with ⟨rfl, _⟩ | ⟨rfl, _⟩
    · rw [hgm] at hgi; cases hgi; exact ⟨h.lt.1, .inr (.inl rfl)⟩
    · rw [hg5] at hgi; exact ⟨(h.own j _ _ hgi).1, .inr (.inr ⟨_, hgi⟩)⟩
/-- In: no row is touched that is there. -/
theorem RelT.fresh (h : RelT ctx ks e k mid n sl R a w g mb blk es ck) (j : Nat) :
    RelG (ctxT ctx mb blk j w) g ⟨n, sl, [(mid, .mapP ks (valsT R es) none (es.toList.map (·.born)) ck)]⟩ a w := by
  obtain ⟨q, hg⟩ := h.gm
  have hlk : ∀ id o, look [(mid, Ob.mapP ks (valsT R es) none (es.toList.map (·.born)) ck)] id = some o → id = mid ∧ o = .mapP ks (valsT R es) none (es.toList.map (·.born)) ck := fun id o ho => by
    simp only [look] at ho
    split at ho
    · cases ho; exact ⟨by assumption, rfl⟩
    · cases ho
  have hfree : ∀ b, Dt ctx mb blk b → Free (ctxT ctx mb blk j w) g [(mid, Ob.mapP ks (valsT R es) none (es.toList.map (·.born)) ck)] b := fun b hb => ⟨.inl hb, fun id o m ho hgi => by
    rw [(hlk id o ho).1, hg] at hgi; cases hgi; exact hb.2.1 rfl⟩
  refine ⟨h.defers, h.size, fun i p hp => ?_, fun id o ho => ?_, fun i i' oi oj b m m' hi hi' hgi hgj => ?_, fun id o b m ho hgi => ?_, rfl, rfl, rfl, Nat.le_refl _, fun _ _ _ => rfl⟩
  · exact (h.slots i p hp).keep ⟨Nat.le_refl _, fun _ _ _ => rfl⟩ (fun b hb _ => hfree b hb) (fun _ _ => rfl)
  · obtain ⟨rfl, rfl⟩ := hlk id o ho
    refine .mapP ks _ _ _ ck mb q es hg h.hh (by rw [valsT_len h.sz, h.sz]) rfl h.below h.nodup (fun i ns' u hi => ?_) fun j' p hjp => by cases hjp
    obtain ⟨l', x', r1, r2, r3⟩ := valsT_get hi
    obtain ⟨x2, s1, s2, s3, s4⟩ := h.ent i ns' l' r1
    rw [r2] at s1; cases s1
    refine ⟨x', r2, s2, s3, ?_, fun _ => r3⟩
    cases hb : blk i with
    | none => rw [hb] at s4; rw [s4.2]; rfl
    | some bc => obtain ⟨b, c⟩ := bc; rw [hb] at s4; rw [s4.1]; rfl
  · rw [(hlk i oi hi).1, (hlk i' oj hi').1]
  · rw [(hlk id o ho).1, hg] at hgi; cases hgi; exact ⟨h.lt.1, .inr (.inl rfl)⟩
/-- Out: the touched row is put back. -/
theorem RelT.back (h : RelT ctx ks e k mid n sl R a w g mb blk es ck) {j q : Nat} {ns : List Int} {l : List (List DV)} {R' : RowsM} {vm : List (List Int × Value)} {sl' : List (Nat × PV)} {a' : Act} {w' : World} {g' : Ghost} {bs' : List Nat} {ck' : Nat} (hq : mid ≠ q) (hle : R.length ≤ R'.length)
    (hvl : vm.length = R'.length) (hj : R'[j]? = some (ns, l)) (hjv : ∃ u, vm[j]? = some (ns, u)) (hvm : ∀ i ns' l', i ≠ j → R'[i]? = some (ns', l') → R[i]? = some (ns', l') ∧ ∃ x, es[i]? = some x ∧ vm[i]? = some (ns', x.val)) (hpl : PlainL l)
    (hr : RelG (ctxT ctx mb blk j w) g' ⟨n, sl', [(mid, .mapP ks vm (some (j, .row q l.length)) bs' ck'), (q, .row e k l)]⟩ a' w') :
    ∃ mb' blk' es', RelT ctx ks e k mid n sl' R' a' w' g' mb' blk' es' ck' := by
  have hlm : look [(mid, Ob.mapP ks vm (some (j, .row q l.length)) bs' ck'), (q, Ob.row e k l)] mid = some (.mapP ks vm (some (j, .row q l.length)) bs' ck') := by simp [look]
  have hlq : look [(mid, Ob.mapP ks vm (some (j, .row q l.length)) bs' ck'), (q, Ob.row e k l)] q = some (.row e k l) := by simp [look, Ne.symm hq]
  cases hr.objs mid _ hlm with
  | mapP _ _ _ _ _ mb' n' es' hgm hh hsz hst hbl hnd hent hov =>
    subst hst
    have hgr : w.heap.size ≤ w'.heap.size := hr.grows
    have hbase : ctx.w0.heap.size ≤ w.heap.size := h.grows
    have hown : ∀ id o b m, look [(mid, Ob.mapP ks vm (some (j, .row q l.length)) (es'.toList.map (·.born)) ck'), (q, Ob.row e k l)] id = some o → g' id = some (b, m) → b < w'.heap.size ∧ (w.heap.size ≤ b ∨ b = mb ∨ ∃ c, blk j = some (b, c)) := fun id o b m ho hg => hr.own id o b m ho hg
    have hnew : ∀ b, (w.heap.size ≤ b ∨ b = mb ∨ ∃ c, blk j = some (b, c)) → ctx.w0.heap.size ≤ b ∨ ctx.K b := fun b hb => by
      rcases hb with hb | hb | ⟨c, hb⟩
      · exact .inl (by omega)
      · subst hb; exact h.lt.2
      · exact (h.own j b c hb).2.1
    have hkeep : ∀ i b c, i ≠ j → blk i = some (b, c) → w'.heap[b]? = w.heap[b]? := fun i b c hij hb => hr.keep b (h.own i b c hb).1 fun hk => by
      rcases hk with hk | ⟨c', hk⟩
      · exact (h.own i b c hb).2.2 hk
      · exact hij (h.inj i j b c c' hb hk)
    have hdiff : ∀ i b c, i ≠ j → blk i = some (b, c) → ¬ (w.heap.size ≤ b ∨ b = mb ∨ ∃ c, blk j = some (b, c)) := fun i b c hij hb hk => by
      rcases hk with hk | hk | ⟨c', hk⟩
      · have := (h.own i b c hb).1; omega
      · exact (h.own i b c hb).2.2 hk
      · exact hij (h.inj i j b c c' hb hk)
    refine ⟨mb', fun i => if i = j then g' q else blk i, es', hr.defers, hr.size, fun i p hp => ?_, ⟨n', hgm⟩, ⟨(hown mid _ mb' n' hlm hgm).1, hnew mb' (hown mid _ mb' n' hlm hgm).2⟩, hh, by rw [hsz, hvl], hbl, hnd, fun i ns' l' hi => ?_, fun i i' b c c' hi hi' => ?_, fun i b c hi => ?_, fun i hi => ?_, ?_, ?_, ?_, by omega, fun z hz hzK => ?_⟩
    · refine (hr.slots i p hp).keep ⟨Nat.le_refl _, fun _ _ _ => rfl⟩ (fun b hb _ => ⟨?_, fun eb => ?_, fun i' c hc => ?_⟩) (fun _ _ => rfl)
      · rcases hb.1 with h1 | h1
        · exact h1.1
        · have h1' : w.heap.size ≤ b := h1
          exact .inr (by omega)
      · subst eb; exact hb.2 mid _ n' hlm hgm
      · simp only at hc
        split at hc
        · exact hb.2 q _ c hlq hc
        · rcases hb.1 with h1 | h1
          · exact h1.2.2 i' c hc
          · have h1' : w.heap.size ≤ b := h1
            have := (h.own i' b c hc).1
            omega
    · by_cases hij : i = j
      · subst hij
        rw [hj] at hi
        cases hi
        obtain ⟨u, hu⟩ := hjv
        obtain ⟨x, r1, r2, r3, _, _⟩ := hent i _ u hu
        obtain ⟨x', s1, s2⟩ := hov i _ rfl
        rw [r1] at s1
        cases s1
        refine ⟨x, r1, r2, r3, ?_⟩
        simp only [if_true]
        have h2 := rd_row s2
        generalize hL : l.length = L at h2
        cases hr.objs q _ hlq with
        | rowNil _ _ hgq =>
          rw [hgq]
          rcases h2 with ⟨b, c, hgi, _⟩ | ⟨_, _, hv⟩
          · rw [hgq] at hgi; cases hgi
          · exact ⟨rfl, hv⟩
        | row _ _ _ b c cur hgq hc hlc hcap hcl hkk hrr =>
          rw [hgq]
          rcases h2 with ⟨b', c', hgi, hv⟩ | ⟨hgi, _, _⟩
          · rw [hgq] at hgi
            cases hgi
            subst hL
            refine ⟨hv, cur, hc, hlc, hcap, hcl, hkk, fun i' cs j' y hi' hy => ?_⟩
            obtain ⟨u', hu', hd⟩ := hrr i' cs j' y hi' hy
            obtain ⟨u2, rfl⟩ := hpl cs (List.mem_of_getElem? hi') y (List.mem_of_getElem? hy)
            cases hd with
            | v _ h1 => exact ⟨_, hu', rfl, h1⟩
          · rw [hgq] at hgi; cases hgi
      · obtain ⟨r0, x0, e0, r1⟩ := hvm i ns' l' hij hi
        obtain ⟨x, s1, s2, s3, s4, s5⟩ := hent i _ _ r1
        refine ⟨x, s1, s2, s3, ?_⟩
        have hxv := s5 fun p hp => by cases hp; exact hij rfl
        simp only [if_neg hij]
        obtain ⟨x', t1, _, _, t4⟩ := h.ent i ns' l' r0
        rw [e0] at t1
        cases t1
        rw [hxv]
        cases hb : blk i with
        | none => rw [hb] at t4; exact t4
        | some bc =>
          obtain ⟨b, c⟩ := bc
          rw [hb] at t4
          obtain ⟨hv, cur, hc, rest⟩ := t4
          exact ⟨hv, cur, by rw [hkeep i b c hij hb]; exact hc, rest⟩
    · have hi0 := hi
      have hi0' := hi'
      clear hi hi'
      have hi : (if i = j then g' q else blk i) = some (b, c) := hi0
      have hi' : (if i' = j then g' q else blk i') = some (b, c') := hi0'
      by_cases h1 : i = j <;> by_cases h2 : i' = j
      · rw [h1, h2]
      · rw [if_pos h1] at hi; rw [if_neg h2] at hi'
        exact (hdiff i' b c' h2 hi' (hown q _ b c hlq hi).2).elim
      · rw [if_neg h1] at hi; rw [if_pos h2] at hi'
        exact (hdiff i b c h1 hi (hown q _ b c' hlq hi').2).elim
      · rw [if_neg h1] at hi; rw [if_neg h2] at hi'
        exact h.inj i i' b c c' hi hi'
    · replace hi : (if i = j then g' q else blk i) = some (b, c) := hi
      by_cases h1 : i = j
      · rw [if_pos h1] at hi
        have := hown q _ b c hlq hi
        exact ⟨this.1, hnew b this.2, fun eb => by subst eb; exact hq (hr.inj mid q _ _ b n' c hlm hlq hgm hi)⟩
      · rw [if_neg h1] at hi
        have := h.own i b c hi
        exact ⟨by omega, this.2.1, fun eb => by subst eb; exact hdiff i b c h1 hi (hown mid _ b n' hlm hgm).2⟩
    · have hjl := (List.getElem?_eq_some_iff.1 hj).1
      simp only [if_neg (show i ≠ j by omega)]
      exact h.out i (by omega)
    · rw [← h.os]; exact hr.os
    · rw [← h.tape]; exact hr.tape
    · rw [← h.output]; exact hr.output
    · rw [← h.keep z hz hzK]
      refine hr.keep z (Nat.lt_of_lt_of_le hz hbase) fun hk => ?_
      rcases hk with hk | ⟨c, hk⟩
      · subst hk
        rcases h.lt.2 with h1 | h1
        · omega
        · exact hzK h1
      · rcases (h.own j z c hk).2.1 with h1 | h1
        · omega
        · exact hzK h1
/-- Out: nothing was touched. -/
theorem RelT.back0 (h : RelT ctx ks e k mid n sl R a w g mb blk es ck) {j : Nat} (hjn : blk j = none) {sl' : List (Nat × PV)} {a' : Act} {w' : World} {g' : Ghost} {bs' : List Nat} {ck' : Nat}
    (hr : RelG (ctxT ctx mb blk j w) g' ⟨n, sl', [(mid, .mapP ks (valsT R es) none bs' ck')]⟩ a' w') :
    ∃ mb' es', RelT ctx ks e k mid n sl' R a' w' g' mb' blk es' ck' := by
  have hlm : look [(mid, Ob.mapP ks (valsT R es) none bs' ck')] mid = some (.mapP ks (valsT R es) none bs' ck') := by simp [look]
  cases hr.objs mid _ hlm with
  | mapP _ _ _ _ _ mb' n' es' hgm hh hsz hst hbl hnd hent hov =>
    subst hst
    have hgr : w.heap.size ≤ w'.heap.size := hr.grows
    have hbase : ctx.w0.heap.size ≤ w.heap.size := h.grows
    have hown : mb' < w'.heap.size ∧ (w.heap.size ≤ mb' ∨ mb' = mb ∨ ∃ c, blk j = some (mb', c)) := hr.own mid _ mb' n' hlm hgm
    have hown2 : w.heap.size ≤ mb' ∨ mb' = mb := by
      rcases hown.2 with h1 | h1 | ⟨c, h1⟩
      · exact .inl h1
      · exact .inr h1
      · rw [hjn] at h1; cases h1
    have hkeep : ∀ i b c, blk i = some (b, c) → w'.heap[b]? = w.heap[b]? := fun i b c hb => hr.keep b (h.own i b c hb).1 fun hk => by
      rcases hk with hk | ⟨c', hk⟩
      · exact (h.own i b c hb).2.2 hk
      · rw [hjn] at hk; cases hk
    refine ⟨mb', es', hr.defers, hr.size, fun i p hp => ?_, ⟨n', hgm⟩, ⟨hown.1, ?_⟩, hh, by rw [hsz, valsT_len h.sz], hbl, hnd, fun i ns' l' hi => ?_, h.inj, fun i b c hi => ?_, h.out, ?_, ?_, ?_, by omega, fun z hz hzK => ?_⟩
    · refine (hr.slots i p hp).keep ⟨Nat.le_refl _, fun _ _ _ => rfl⟩ (fun b hb _ => ⟨?_, fun eb => ?_, fun i' c hc => ?_⟩) (fun _ _ => rfl)
      · rcases hb.1 with h1 | h1
        · exact h1.1
        · have h1' : w.heap.size ≤ b := h1
          exact .inr (by omega)
      · subst eb; exact hb.2 mid _ n' hlm hgm
      · rcases hb.1 with h1 | h1
        · exact h1.2.2 i' c hc
        · have h1' : w.heap.size ≤ b := h1
          have := (h.own i' b c hc).1
          omega
    · rcases hown2 with h1 | h1
      · exact .inl (by omega)
      · rw [h1]; exact h.lt.2
    · obtain ⟨x', t1, t2, t3, t4⟩ := h.ent i ns' l' hi
      obtain ⟨x, s1, s2, s3, s4, s5⟩ := hent i _ _ (valsT_of hi t1)
      refine ⟨x, s1, s2, s3, ?_⟩
      rw [s5 fun p hp => by cases hp]
      cases hb : blk i with
      | none => rw [hb] at t4; exact t4
      | some bc =>
        obtain ⟨b, c⟩ := bc
        rw [hb] at t4
        obtain ⟨hv, cur, hc, rest⟩ := t4
        exact ⟨hv, cur, by rw [hkeep i b c hb]; exact hc, rest⟩
    · have := h.own i b c hi
      refine ⟨by omega, this.2.1, fun eb => ?_⟩
      rcases hown2 with h1 | h1
      · omega
      · exact this.2.2 (by rw [eb, h1])
    · rw [← h.os]; exact hr.os
    · rw [← h.tape]; exact hr.tape
    · rw [← h.output]; exact hr.output
    · rw [← h.keep z hz hzK]
      refine hr.keep z (Nat.lt_of_lt_of_le hz hbase) fun hk => ?_
      rcases hk with hk | ⟨c, hk⟩
      · subst hk
        rcases h.lt.2 with h1 | h1
        · omega
        · exact hzK h1
      · rw [hjn] at hk; cases hk
end
end

section
variable {P : Program} {ctx : Ctx} {ks : List IntKind} {e : TypeId} {k mid n : Nat} {Q : PQ} {s : PState} {c : Code}
/-- What a round does: a row that is there grows; a new one comes; nothing. -/
inductive RoundT (P : Program) (c : Code) (ks : List IntKind) (e : TypeId) (k mid n : Nat) (sl : List (Nat × PV)) (R : RowsM) (sl' : List (Nat × PV)) (R' : RowsM) : Prop
  | found {j nl nl' : Nat} {ns : List Int} {l l' : List (List DV)} (hl : nl = l.length) (hl' : nl' = l'.length) (hj : R[j]? = some (ns, l)) (hR : R' = R.set j (ns, l'))
      (h : ∀ (ctx : Ctx) (vm : List (List Int × Value)) (bs : List Nat) (ck : Nat), vm.map (·.1) = R.map (·.1) → PWc P ctx c (fun x t => x = .normal ∧ Sub ctx t ⟨n, sl', [(mid, .mapP ks vm (some (j, .row 50 nl')) bs ck), (50, .row e k l')]⟩) ⟨n, sl, [(mid, .mapP ks vm (some (j, .row 50 nl)) bs ck), (50, .row e k l)]⟩)
  | fresh {q nl' : Nat} {ns : List Int} {l' : List (List DV)} (hl' : nl' = l'.length) (hq : mid ≠ q) (hR : R' = R ++ [(ns, l')])
      (h : ∀ (ctx : Ctx) (vm : List (List Int × Value)) (bs : List Nat) (ck : Nat), vm.map (·.1) = R.map (·.1) → PWc P ctx c (fun x t => x = .normal ∧ Sub ctx t ⟨n, sl', [(mid, .mapP ks (vm ++ [(ns, undef)]) (some (vm.length, .row q nl')) (bs ++ [ck]) (ck + 1)), (q, .row e k l')]⟩) ⟨n, sl, [(mid, .mapP ks vm none bs ck)]⟩)
  | skip (hR : R' = R) (h : ∀ (ctx : Ctx) (vm : List (List Int × Value)) (bs : List Nat) (ck : Nat), PWc P ctx c (fun x t => x = .normal ∧ Sub ctx t ⟨n, sl', [(mid, .mapP ks vm none bs ck)]⟩) ⟨n, sl, [(mid, .mapP ks vm none bs ck)]⟩)

theorem RoundT.run {sl sl' : List (Nat × PV)} {R R' : RowsM} (hr : RoundT P c ks e k mid n sl R sl' R') (hm : mid ≠ 50) (hnm : ∀ x ∈ sl, ∀ id, x.2.has id = true → id = mid) (hpl : ∀ p ∈ R', PlainL p.2)
    {a : Act} {w : World} {g : Ghost} {mb : Nat} {blk : Nat → Option (Nat × Nat)} {es : Array MapEntry} {ck : Nat} (h : RelT ctx ks e k mid n sl R a w g mb blk es ck) :
    c.wp P (fun x a' w' => x = .normal ∧ ∃ g' mb' blk' es' ck', RelT ctx ks e k mid n sl' R' a' w' g' mb' blk' es' ck') a w := by
  cases hr with
  | @found j nl nl' ns l l' hl hl' hj hR hw =>
    subst hl hl'
    refine wp_mono (hw (ctxT ctx mb blk j w) (valsT R es) (es.toList.map (·.born)) ck (valsT_fst h.sz) a w ⟨_, h.found hnm hm hj⟩) fun x a' w' ⟨t, ⟨hx, hs⟩, ht⟩ => ⟨hx, ?_⟩
    obtain ⟨g', hg'⟩ := hs a' w' ht
    subst hR
    have hjl := (List.getElem?_eq_some_iff.1 hj).1
    obtain ⟨x0, e0, _, _, _⟩ := h.ent j ns l hj
    have hj' : (R.set j (ns, l'))[j]? = some (ns, l') := by rw [List.getElem?_set_self hjl]
    obtain ⟨mb', blk', es', hT⟩ := h.back (R' := R.set j (ns, l')) (vm := valsT R es) (q := 50) hm (by simp) (by rw [valsT_len h.sz]; simp) hj' ⟨x0.val, valsT_of hj e0⟩ (fun i ns' l2 hij hi => by
      rw [List.getElem?_set_ne (Ne.symm hij)] at hi
      obtain ⟨x1, e1, _⟩ := h.ent i ns' l2 hi
      exact ⟨hi, x1, e1, valsT_of hi e1⟩) (hpl _ (List.mem_of_getElem? hj')) hg'
    exact ⟨g', mb', blk', es', _, hT⟩
  | @fresh q nl' ns l' hl' hq hR hw =>
    subst hl'
    refine wp_mono (hw (ctxT ctx mb blk R.length w) (valsT R es) (es.toList.map (·.born)) ck (valsT_fst h.sz) a w ⟨_, h.fresh R.length⟩) fun x a' w' ⟨t, ⟨hx, hs⟩, ht⟩ => ⟨hx, ?_⟩
    obtain ⟨g', hg'⟩ := hs a' w' ht
    subst hR
    have hj' : (R ++ [(ns, l')])[R.length]? = some (ns, l') := by simp
    rw [valsT_len h.sz] at hg'
    obtain ⟨mb', blk', es', hT⟩ := h.back (R' := R ++ [(ns, l')]) (j := R.length) (vm := valsT R es ++ [(ns, undef)]) (q := q) hq (by simp) (by simp [valsT_len h.sz]) hj' ⟨undef, by rw [List.getElem?_append_right (by rw [valsT_len h.sz]; exact Nat.le_refl _)]; simp [valsT_len h.sz]⟩ (fun i ns' l2 hij hi => by
      have hil : i < R.length := by
        have := (List.getElem?_eq_some_iff.1 hi).1
        simp at this
        omega
      rw [List.getElem?_append_left hil] at hi
      obtain ⟨x1, e1, _⟩ := h.ent i ns' l2 hi
      exact ⟨hi, x1, e1, by rw [List.getElem?_append_left (by rw [valsT_len h.sz]; exact hil)]; exact valsT_of hi e1⟩) (hpl _ (List.mem_of_getElem? hj')) hg'
    exact ⟨g', mb', blk', es', _, hT⟩
  | skip hR hw =>
    refine wp_mono (hw (ctxT ctx mb blk R.length w) (valsT R es) (es.toList.map (·.born)) ck a w ⟨_, h.fresh R.length⟩) fun x a' w' ⟨t, ⟨hx, hs⟩, ht⟩ => ⟨hx, ?_⟩
    obtain ⟨g', hg'⟩ := hs a' w' ht
    subst hR
    obtain ⟨mb', es', hT⟩ := h.back0 (h.out _ (Nat.le_refl _)) hg'
    exact ⟨g', mb', blk, es', _, hT⟩

end

section
variable {κ α : Type} {eK : κ → List Int} {enc : α → List DV}
variable [DecidableEq κ]
end
namespace AL
variable {κ α β : Type} [DecidableEq κ]
end AL
end Go.Ep

namespace Go.Ep
open Go.RowKit

/-- A block of one of the objects. -/
def OwnB (g : Ghost) (os : List (Nat × Ob)) (b : Nat) : Prop := ∃ id o n, look os id = some o ∧ g id = some (b, n)
/-- Objects as they lie. -/
structure ObsRd (w : World) (g : Ghost) (S : Nat → Prop) (os : List (Nat × Ob)) : Prop where
  rd : ∀ id o, look os id = some o → ObRd w g S id o
  inj : ∀ i j oi oj b n m, look os i = some oi → look os j = some oj → g i = some (b, n) → g j = some (b, m) → i = j
  lt : ∀ id o b n, look os id = some o → g id = some (b, n) → b < w.heap.size

/-- The blocks for data behind the call. -/
def After (w : World) (g : Ghost) (S : Nat → Prop) (os : List (Nat × Ob)) (g' : Ghost) (os' : List (Nat × Ob)) (b : Nat) : Prop := (S b ∨ OwnB g os b ∨ w.heap.size ≤ b) ∧ ¬ OwnB g' os' b
structure ObPost (w : World) (g : Ghost) (S : Nat → Prop) (os : List (Nat × Ob)) (pins : List Nat) (r : PV) (os' : List (Nat × Ob)) (w' : World) (g' : Ghost) (u : Value) : Prop where
  eos : w'.os = w.os
  tape : w'.tape = w.tape
  output : w'.output = w.output
  grows : w.heap.size ≤ w'.heap.size
  keep : ∀ k, k < w.heap.size → ¬ OwnB g os k → w'.heap[k]? = w.heap[k]?
  own : ∀ b, OwnB g' os' b → OwnB g os b ∨ w.heap.size ≤ b
  pin : ∀ id ∈ pins, g' id = g id
  res : Rd w' g' (After w g S os g' os') r u
  obs : ObsRd w' g' (After w g S os g' os') os'
def PObj {G : Type} (P : Program) (f : FuncId) (ps : List PV) (os : List (Nat × Ob)) (pins : List Nat) (r : PV) (os' : G → List (Nat × Ob)) : Prop :=
  ∀ (w : World) (g : Ghost) (S : Nat → Prop) (vs : List Value), ps.length = vs.length → (∀ (i : Nat) (p : PV) (v : Value), ps[i]? = some p → vs[i]? = some v → Rd w g S p v) → ObsRd w g S os → (∀ b, S b → ¬ OwnB g os b) →
    Calls P f vs.toArray w (fun e w' => ∃ u g' gh, e = .returned u ∧ ObPost w g S os pins r (os' gh) w' g' u)

section
variable {ctx : Ctx}
/-- What is handed back: values as they stand. -/
inductive ResO (P : Program) (s : PState) : ResultVar → PV → Prop
  | tmp {t : Nat} {p : PV} (h : s.at t = some p) : ResO P s (.tmp t) p
  | agg {t T k id : Nat} {T0 : TypeId} {cs : List PV} (ha : ∀ w, (isAgg T).run P w = .ok true w) (hs : ∀ w, (sizeOf T).run P w = .ok k w) (h : s.at t = some (.ref id 0)) (hl : look s.objs id = some (.cells T0 cs)) (hk : cs.length = k) : ResO P s (.cell t T) (.agg cs)
  | cell {t T id : Nat} {T0 : TypeId} {p : PV} (ha : ∀ w, (isAgg T).run P w = .ok false w) (h : s.at t = some (.ref id 0)) (hl : look s.objs id = some (.cells T0 [p])) : ResO P s (.cell t T) p
inductive ResLO (P : Program) (s : PState) : List ResultVar → List PV → Prop
  | nil : ResLO P s [] []
  | cons {r : ResultVar} {p : PV} {rs : List ResultVar} {ps : List PV} (h : ResO P s r p) (t : ResLO P s rs ps) : ResLO P s (r :: rs) (p :: ps)
/-- The walk's end. -/
def EndsO {G : Type} (P : Program) (ctx : Ctx) (fn : Func) (pl : List (Nat × Ob)) (r : PV) (os' : G → List (Nat × Ob)) : PQ := fun e s => (e = .normal ∨ e = .ret) ∧ ∃ gh ps t, Sub ctx s t ∧ ResLO P t fn.results.toList ps ∧ tupOf ps = r ∧
  (∀ id o, look (os' gh) id = some o → look t.objs id = some o) ∧ ∀ id o, look pl id = some o → look t.objs id = some o

variable {P : Program} {s : PState}
theorem resO_real {g : Ghost} {a : Act} {w : World} (hg : RelG ctx g s a w) {rv : ResultVar} {p : PV} (h : ResO P s rv p) :
    ∃ v, (resOne a.tmps rv).run P w = .ok v w ∧ Rd w g (Free ctx g s.objs) p v := by
  cases h with
  | @tmp t _ h => exact ⟨_, rfl, hg.slots t _ h⟩
  | @agg t T k id T0 cs ha hs h hl hk =>
    have hr := hg.slots t _ h
    generalize hv : a.tmps.getD t undef = v at hr
    cases hr with
    | ref _ _ blk n hgi =>
      cases hg.objs id _ hl with
      | cells _ _ blk' n' us h' hh hlen hr' h1 =>
        rw [hgi] at h'
        cases h'
        refine ⟨.agg us.toArray, ?_, .agg cs us hlen hr' h1⟩
        have := run_loadAgg (P := P) (us := us) ha (by rw [← hlen, hk]; exact hs) (w := w) (b := blk) (o := 0) (fun j u hu => by rw [Nat.zero_add, cell_of_heap hh]; exact hu)
        show (do loadVar T (← asAddr (a.tmps.getD t undef)) : Sem Value).run P w = _
        rw [hv]
        simp only [asAddr, Sem.run_bind, Sem.run_pure, Result.andThen_ok]
        exact this
  | @cell t T id T0 p ha h hl =>
    have hr := hg.slots t _ h
    generalize hv : a.tmps.getD t undef = v at hr
    cases hr with
    | ref _ _ blk n hgi =>
      cases hg.objs id _ hl with
      | cells _ _ blk' n' us h' hh hlen hr' h1 =>
        rw [hgi] at h'
        cases h'
        have hlt : 0 < us.length := by rw [← hlen]; simp
        have hu : us[0]? = some us[0] := List.getElem?_eq_getElem hlt
        refine ⟨us[0], ?_, hr' 0 p _ rfl hu⟩
        have := run_loadOne (P := P) ha (w := w) (ad := ⟨blk, 0, none⟩) (u := us[0]) (by rw [cell_of_heap hh]; exact hu)
        show (do loadVar T (← asAddr (a.tmps.getD t undef)) : Sem Value).run P w = _
        rw [hv]
        simp only [asAddr, Sem.run_bind, Sem.run_pure, Result.andThen_ok]
        exact this
theorem resLO_real {g : Ghost} {a : Act} {w : World} (hg : RelG ctx g s a w) {rs : List ResultVar} {ps : List PV} (h : ResLO P s rs ps) :
    ∃ vs : List Value, (rs.mapM (resOne a.tmps)).run P w = .ok vs w ∧ ps.length = vs.length ∧
      ∀ (i : Nat) (p : PV) (v : Value), ps[i]? = some p → vs[i]? = some v → Rd w g (Free ctx g s.objs) p v := by
  induction h with
  | nil => exact ⟨[], by simp, rfl, by simp⟩
  | cons h _ ih =>
    obtain ⟨vs, h1, h2, h3⟩ := ih
    obtain ⟨v, hv1, hv2⟩ := resO_real hg h
    refine ⟨v :: vs, ?_, by simp [h2], ?_⟩
    · simp only [List.mapM_cons, Sem.run_bind, hv1, h1, Result.andThen_ok, Sem.run_pure]
    · intro i p u hp hu
      cases i with
      | zero => simp at hp hu; subst hp; subst hu; exact hv2
      | succ i => simp at hp hu; exact h3 i p u hp hu

/-- The pins of some objects: what holds the ghost of an object to what it was. -/
def pinL (pv : Nat → Nat × Nat) : List Nat → List (Nat × Ob)
  | [] => []
  | id :: r => (id + 1000, .pin id (pv id).1 (pv id).2) :: pinL pv r
theorem pinL_mem {pv : Nat → Nat × Nat} {pins : List Nat} {id : Nat} {o : Ob} (h : look (pinL pv pins) id = some o) : ∃ t ∈ pins, id = t + 1000 ∧ o = .pin t (pv t).1 (pv t).2 := by
  induction pins with
  | nil => simp [pinL, look] at h
  | cons t r ih =>
    simp only [pinL, look] at h
    split at h
    · rename_i e; exact ⟨t, by simp, e, by simpa using h.symm⟩
    · obtain ⟨t', h1, h2, h3⟩ := ih h; exact ⟨t', by simp [h1], h2, h3⟩
theorem pinL_look {pv : Nat → Nat × Nat} {pins : List Nat} {t : Nat} (h : t ∈ pins) : look (pinL pv pins) (t + 1000) = some (.pin t (pv t).1 (pv t).2) := by
  induction pins with
  | nil => cases h
  | cons q r ih =>
    simp only [pinL, look]
    by_cases e : t = q
    · subst e; simp
    · rw [if_neg (by omega)]
      exact ih ((List.mem_cons.1 h).resolve_left e)
theorem look_append (l l' : List (Nat × Ob)) (id : Nat) : look (l ++ l') id = (look l id).or (look l' id) := by
  induction l with
  | nil => simp [look]
  | cons x r ih =>
    obtain ⟨k, o⟩ := x
    simp only [List.cons_append, look]
    split
    · rfl
    · exact ih
/-- Nothing that is handed names a pin; pinned are cells and maps. -/
def pinOK (ps : List PV) (os : List (Nat × Ob)) (pins : List Nat) : Bool :=
  pins.all fun t => ps.all (fun p => !p.has (t + 1000)) && os.all (fun x => x.1 != t + 1000 && !x.2.has (t + 1000)) && (match look os t with | some (.cells ..) => true | some (.map ..) => true | _ => false) && pins.all (fun t' => t' + 1000 != t)

theorem PObj.intro {G : Type} {f : FuncId} {fn : Func} {c : Code} {ps : List PV} {os : List (Nat × Ob)} {pins : List Nat} {r : PV} {os' : G → List (Nat × Ob)} {n : Nat} {sl : List (Nat × PV)} (hf : P.funcs[f]? = some fn) (hb : fn.body = some c) (hn : fn.ntmps = n) (hsl : args 0 ps = sl) (hpn : Nat.ble ps.length n = true) (hpin : pinOK ps os pins = true)
    (body : ∀ ctx : Ctx, (∀ b, ctx.K b → ctx.S b) → ∀ pv : Nat → Nat × Nat, PWc P ctx c (EndsO P ctx fn (pinL pv pins) r os') ⟨n, sl, os ++ pinL pv pins⟩) : PObj P f ps os pins r os' := by
  intro w g S vs hlen hreal hobs hdis
  let ctx : Ctx := ⟨w, fun b => S b ∨ OwnB g os b, OwnB g os⟩
  let pv : Nat → Nat × Nat := fun t => (g t).getD (0, 0)
  let g1 : Ghost := fun j => if pins.any (fun t => j == t + 1000) then none else g j
  simp only [pinOK, List.all_eq_true, Bool.and_eq_true, Bool.not_eq_true', bne_iff_ne, ne_eq] at hpin
  have g1pin : ∀ t ∈ pins, g1 (t + 1000) = none := fun t ht => by
    have : (pins.any fun t' => t + 1000 == t' + 1000) = true := List.any_eq_true.2 ⟨t, ht, by simp⟩
    simp only [g1, this, if_true]
  have g1ne : ∀ j, (∀ t ∈ pins, j ≠ t + 1000) → g1 j = g j := fun j hj => by
    have : (pins.any fun t' => j == t' + 1000) = false := by
      rw [List.any_eq_false]; intro t ht; simpa using hj t ht
    simp only [g1, this, Bool.false_eq_true, if_false]
  have g1p : ∀ p ∈ ps, ∀ j, p.has j = true → g1 j = g j := fun p hp j hj => g1ne j fun t ht e => by
    have := (hpin t ht).1.1.1 p hp
    rw [← e, hj] at this
    cases this
  have hosk : ∀ id o, look os id = some o → ∀ t ∈ pins, id ≠ t + 1000 := fun id o ho t ht => ((hpin t ht).1.1.2 _ (look_mem ho)).1
  have g1k : ∀ id o, look os id = some o → g1 id = g id := fun id o ho => g1ne id (hosk id o ho)
  have g1o : ∀ id o, look os id = some o → ∀ j, o.has j = true → g1 j = g j := fun id o ho j hj => g1ne j fun t ht e => by
    have := ((hpin t ht).1.1.2 _ (look_mem ho)).2
    simp only at this
    rw [← e, hj] at this
    cases this
  have hgp : ∀ t ∈ pins, g t = some (pv t) := fun t ht => by
    have h1 := (hpin t ht).1.2
    cases hl : look os t with
    | none => rw [hl] at h1; cases h1
    | some o =>
      rw [hl] at h1
      have h2 := hobs.rd t o hl
      cases h2 with
      | cells _ _ blk n us h => simp [pv, h]
      | map _ _ _ _ _ blk n es h => simp [pv, h]
      | _ => cases h1
  have hlook : ∀ id o, look (os ++ pinL pv pins) id = some o → look os id = some o ∨ ∃ t ∈ pins, id = t + 1000 ∧ o = .pin t (pv t).1 (pv t).2 := fun id o h => by
    rw [look_append] at h
    cases hl : look os id with
    | none => rw [hl, Option.none_or] at h; exact .inr (pinL_mem h)
    | some q => rw [hl, Option.some_or] at h; exact .inl h
  have hfree : ∀ b, S b → Free ctx g1 (os ++ pinL pv pins) b := fun b hb => ⟨.inl (.inl hb), fun id o n ho hg => by
    rcases hlook id o ho with h | ⟨t, ht, h, _⟩
    · rw [g1k id o h] at hg; exact hdis b hb ⟨id, o, n, h, hg⟩
    · rw [h, g1pin t ht] at hg; cases hg⟩
  have hst : Stays w w S := ⟨Nat.le_refl _, fun _ _ _ => rfl⟩
  have hpl : vs.length ≤ n := by rw [← hlen]; exact Nat.le_of_ble_eq_true hpn
  refine calls_of_wp hf hb ?_
  subst hsl
  have hrel : RelG ctx g1 ⟨n, args 0 ps, os ++ pinL pv pins⟩ { tmps := vs.toArray ++ Array.replicate (fn.ntmps - vs.toArray.size) undef, defers := [] } w := by
    rw [hn]
    refine ⟨rfl, by simp; omega, ?_, ?_, ?_, ?_, rfl, rfl, rfl, Nat.le_refl _, fun _ _ _ => rfl⟩
    · intro i p hp
      obtain ⟨j, h1, h2⟩ := args_get (at_get hp)
      have e : i = j := by omega
      subst e
      have hi' : i < vs.length := by rw [← hlen]; exact (List.getElem?_eq_some_iff.1 h2).1
      have hv : vs[i]? = some vs[i] := List.getElem?_eq_getElem hi'
      have e : (vs.toArray ++ Array.replicate (n - vs.toArray.size) undef).getD i undef = vs[i] := by
        simp [Array.getD_eq_getD_getElem?, Array.getElem?_append, hi']
      rw [e]
      exact (hreal i p _ h2 hv).keep (w' := w) (g' := g1) hst (fun b hb _ => hfree b hb) (fun j hj => g1p p (List.mem_of_getElem? h2) j hj)
    · intro id o ho
      rcases hlook id o ho with h | ⟨t, ht, rfl, rfl⟩
      · exact (hobs.rd id o h).keep hst (fun b hb _ => hfree b hb) (fun _ _ _ => rfl) (g1k id o h) (g1o id o h)
      · refine .pin t _ _ (g1pin t ht) ?_
        rw [g1ne t fun t' ht' e => (hpin t ht).2 t' ht' e.symm]
        exact hgp t ht
    · intro i j oi oj b n m hi hj hgi hgj
      rcases hlook i oi hi with h | ⟨t, ht, rfl, _⟩
      · rcases hlook j oj hj with h2 | ⟨t, ht, rfl, _⟩
        · rw [g1k i oi h] at hgi; rw [g1k j oj h2] at hgj; exact hobs.inj i j oi oj b n m h h2 hgi hgj
        · rw [g1pin t ht] at hgj; cases hgj
      · rw [g1pin t ht] at hgi; cases hgi
    · intro id o b n ho hg
      rcases hlook id o ho with h | ⟨t, ht, rfl, _⟩
      · rw [g1k id o h] at hg; exact ⟨hobs.lt id o b n h hg, .inr ⟨id, o, n, h, hg⟩⟩
      · rw [g1pin t ht] at hg; cases hg
  refine wp_mono (body ctx (fun b h => .inr h) pv _ w ⟨g1, hrel⟩) fun e a' w' ⟨s1, ⟨he, gh, qs, t, hsub, hres, hq, hos, hpl'⟩, hr1⟩ => ?_
  have main : a'.defers = [] ∧ ∃ v, (results fn a'.tmps).run P w' = .ok v w' ∧ (∃ u g' gh, Ending.returned v = .returned u ∧ ObPost w g S os pins r (os' gh) w' g' u) := by
    obtain ⟨g2, hg⟩ := hsub a' w' hr1
    obtain ⟨us, h1, h2, h3⟩ := resLO_real hg hres
    have hrun : (results fn a'.tmps).run P w' = .ok (if h : us.toArray.size = 1 then us.toArray[0] else .tuple us.toArray) w' := by
      rw [results_eq, Array.mapM_eq_mapM_toList]
      simp only [Sem.run_bind, Sem.run_map, h1, Result.andThen_ok, Sem.run_pure]
    have hFA : ∀ b, Free ctx g2 t.objs b → After w g S os g2 (os' gh) b := fun b ⟨f1, f2⟩ => ⟨by
      rcases f1 with (f1 | f1) | f1
      · exact .inl f1
      · exact .inr (.inl f1)
      · exact .inr (.inr f1), fun ⟨id, o, n, h4, h5⟩ => f2 id o n (hos id o h4) h5⟩
    have hst' : Stays w' w' (Free ctx g2 t.objs) := ⟨Nat.le_refl _, fun _ _ _ => rfl⟩
    refine ⟨hg.defers, _, hrun, _, g2, gh, rfl, hg.os, hg.tape, hg.output, hg.grows, hg.keep, fun b ⟨id, o, n, h4, h5⟩ => ?_, fun id hid => ?_, ?_, ⟨fun id o h4 => (hg.objs id o (hos id o h4)).keep hst' (fun b hb _ => hFA b hb) (fun _ _ _ => rfl) rfl (fun _ _ => rfl), fun i j oi oj b n m hi hj => hg.inj i j oi oj b n m (hos i oi hi) (hos j oj hj), fun id o b n h4 h5 => (hg.own id o b n (hos id o h4) h5).1⟩⟩
    · rcases (hg.own id o b n (hos id o h4) h5).2 with h6 | h6
      · exact .inr h6
      · exact .inl h6
    · have h6 := hg.objs _ _ (hpl' _ _ (pinL_look (pv := pv) hid))
      cases h6 with
      | pin _ _ _ _ ht => rw [ht, hgp id hid]
    · have hk : ∀ {p : PV} {v : Value}, Rd w' g2 (Free ctx g2 t.objs) p v → Rd w' g2 (After w g S os g2 (os' gh)) p v := fun h => h.keep hst' (fun b hb _ => hFA b hb) (fun _ _ => rfl)
      subst hq
      match qs, us, h2, h3 with
      | [p], [u], _, h3 => exact hk (h3 0 p u rfl rfl)
      | [], [], _, h3 => exact .tup [] [] rfl (by simp)
      | p :: q :: ps, u :: v :: us, h2, h3 =>
        have hne : ¬ (u :: v :: us).toArray.size = 1 := by simp
        rw [dif_neg hne]
        exact .tup _ _ h2 fun i p u hp hu => hk (h3 i p u hp hu)
  rcases he with rfl | rfl
  · exact main
  · exact main
end
end Go.Ep
namespace Go.Ep
open Go.RowKit
def rn (ρ : List (Nat × Nat)) (i : Nat) : Nat := match ρ with
  | [] => i
  | (a, b) :: r => bif Nat.beq a i then b else rn r i
mutual
def PV.ren (ρ : List (Nat × Nat)) : PV → PV
  | .ref i o => .ref (rn ρ i) o
  | .row i n => .row (rn ρ i) n
  | .rp i a b c => .rp (rn ρ i) a b c
  | .pc i a b c => .pc (rn ρ i) a b c
  | .mp i => .mp (rn ρ i)
  | .agg cs => .agg (PV.renL ρ cs)
  | .tup cs => .tup (PV.renL ρ cs)
  | p => p
def PV.renL (ρ : List (Nat × Nat)) : List PV → List PV
  | [] => []
  | c :: r => c.ren ρ :: PV.renL ρ r
end
def Ob.ren (ρ : List (Nat × Nat)) : Ob → Ob
  | .cells T cs => .cells T (PV.renL ρ cs)
  | .iterO mid bs ck L => .iterO (rn ρ mid) bs ck L
  | .pin t b n => .pin (rn ρ t) b n
  | .mapP ks m ov bs ck => .mapP ks m (ov.map fun x => (x.1, x.2.ren ρ)) bs ck
  | o => o
theorem renL_map (ρ : List (Nat × Nat)) : ∀ cs : List PV, PV.renL ρ cs = cs.map (PV.ren ρ)
  | [] => by simp [PV.renL]
  | c :: r => by simp [PV.renL, renL_map ρ r]
section
variable {w : World} {g : Ghost} {S : Nat → Prop} {ρ : List (Nat × Nat)}
theorem Rd.ren {p : PV} {v : Value} (h : Rd w (fun i => g (rn ρ i)) S p v) : Rd w g S (p.ren ρ) v := by
  induction h with
  | junk u => exact .junk u
  | und => exact .und
  | d h => exact .d h
  | agg cs us hl h h1 ih =>
    rw [PV.ren, renL_map]
    refine .agg _ us (by simpa using hl) (fun i p u hp hu => ?_) h1
    rw [List.getElem?_map] at hp
    cases hc : cs[i]? with
    | none => rw [hc] at hp; cases hp
    | some q => rw [hc] at hp; simp only [Option.map_some, Option.some.injEq] at hp; subst hp; exact ih i q u hc hu
  | tup cs us hl h ih =>
    rw [PV.ren, renL_map]
    refine .tup _ us (by simpa using hl) (fun i p u hp hu => ?_)
    rw [List.getElem?_map] at hp
    cases hc : cs[i]? with
    | none => rw [hc] at hp; cases hp
    | some q => rw [hc] at hp; simp only [Option.map_some, Option.some.injEq] at hp; subst hp; exact ih i q u hc hu
  | ref id off blk n h => exact .ref _ off blk n h
  | row id n blk cap h => exact .row _ n blk cap h
  | rowNil id h => exact .rowNil _ h
  | rp id i off k blk cap h => exact .rp _ i off k blk cap h
  | pc id i n k blk cap h hi => exact .pc _ i n k blk cap h hi
  | pc0 id i k a c => exact .pc0 _ i k a c
  | ep cs b off o c hS hb hc hr => exact .ep cs b off o c hS hb hc hr
  | mp id blk n h => exact .mp _ blk n h
  | md ks ag m bs ck b es hS hb hh hm => exact .md ks ag m bs ck b es hS hb hh hm
  | mdNil ks ag => exact .mdNil ks ag
theorem Rd.unren {q : PV} {v : Value} (h : Rd w g S q v) : ∀ {p : PV}, q = p.ren ρ → Rd w (fun i => g (rn ρ i)) S p v := by
  induction h with
  | junk u => intro p hp; cases p <;> simp only [PV.ren, reduceCtorEq] at hp; exact .junk u
  | und => intro p hp; cases p <;> simp only [PV.ren, reduceCtorEq] at hp; exact .und
  | d h => intro p hp; cases p <;> simp only [PV.ren, reduceCtorEq, PV.d.injEq] at hp; subst hp; exact .d h
  | agg cs us hl h h1 ih =>
    intro p hp
    cases p <;> simp only [PV.ren, reduceCtorEq, PV.agg.injEq] at hp
    rename_i cs'
    rw [renL_map] at hp
    subst hp
    exact .agg cs' us (by simpa using hl) (fun i p u hp hu => ih i (p.ren ρ) u (by simp [hp]) hu rfl) h1
  | tup cs us hl h ih =>
    intro p hp
    cases p <;> simp only [PV.ren, reduceCtorEq, PV.tup.injEq] at hp
    rename_i cs'
    rw [renL_map] at hp
    subst hp
    exact .tup cs' us (by simpa using hl) (fun i p u hp hu => ih i (p.ren ρ) u (by simp [hp]) hu rfl)
  | ref id off blk n h =>
    intro p hp
    cases p <;> simp only [PV.ren, reduceCtorEq, PV.ref.injEq] at hp
    obtain ⟨rfl, rfl⟩ := hp
    exact .ref _ _ blk n h
  | row id n blk cap h =>
    intro p hp
    cases p <;> simp only [PV.ren, reduceCtorEq, PV.row.injEq] at hp
    obtain ⟨rfl, rfl⟩ := hp
    exact .row _ _ blk cap h
  | rowNil id h =>
    intro p hp
    cases p <;> simp only [PV.ren, reduceCtorEq, PV.row.injEq] at hp
    obtain ⟨rfl, rfl⟩ := hp
    exact .rowNil _ h
  | rp id i off k blk cap h =>
    intro p hp
    cases p <;> simp only [PV.ren, reduceCtorEq, PV.rp.injEq] at hp
    obtain ⟨rfl, rfl, rfl, rfl⟩ := hp
    exact .rp _ _ _ _ blk cap h
  | pc id i n k blk cap h hi =>
    intro p hp
    cases p <;> simp only [PV.ren, reduceCtorEq, PV.pc.injEq] at hp
    obtain ⟨rfl, rfl, rfl, rfl⟩ := hp
    exact .pc _ _ _ _ blk cap h hi
  | pc0 id i k a c =>
    intro p hp
    cases p <;> simp only [PV.ren, reduceCtorEq, PV.pc.injEq] at hp
    obtain ⟨rfl, rfl, rfl, rfl⟩ := hp
    exact .pc0 _ _ _ a c
  | ep cs b off o c hS hb hc hr =>
    intro p hp
    cases p <;> simp only [PV.ren, reduceCtorEq, PV.ep.injEq] at hp
    obtain ⟨rfl, rfl⟩ := hp
    exact .ep _ b off _ c hS hb hc hr
  | mp id blk n h =>
    intro p hp
    cases p <;> simp only [PV.ren, reduceCtorEq, PV.mp.injEq] at hp
    subst hp
    exact .mp _ blk n h
  | md ks ag m bs ck b es hS hb hh hm =>
    intro p hp
    cases p <;> simp only [PV.ren, reduceCtorEq, PV.md.injEq] at hp
    obtain ⟨rfl, rfl, rfl⟩ := hp
    exact .md _ _ _ bs ck b es hS hb hh hm
  | mdNil ks ag =>
    intro p hp
    cases p <;> simp only [PV.ren, reduceCtorEq, PV.md.injEq] at hp
    obtain ⟨rfl, rfl, rfl⟩ := hp
    exact .mdNil _ _
theorem ObRd.ren {id : Nat} {o : Ob} (h : ObRd w (fun i => g (rn ρ i)) S id o) : ObRd w g S (rn ρ id) (o.ren ρ) := by
  cases h with
  | cells T cs blk n us h hh hl hr h1 =>
    rw [Ob.ren, renL_map]
    refine .cells T _ blk n us h hh (by simpa using hl) (fun i p u hp hu => ?_) h1
    rw [List.getElem?_map] at hp
    cases hc : cs[i]? with
    | none => rw [hc] at hp; cases hp
    | some q => rw [hc] at hp; simp only [Option.map_some, Option.some.injEq] at hp; subst hp; exact (hr i q u hc hu).ren
  | rowNil T k h => exact .rowNil T k h
  | row T k l blk cap cur h hh hlc hcap hcs hkk hr => exact .row T k l blk cap cur h hh hlc hcap hcs hkk hr
  | map ks ag m bs ck blk n es h hh hm => exact .map ks ag m bs ck blk n es h hh hm
  | iterO mid bs ck L blk n b n' h hh hm => exact .iterO _ bs ck L blk n b n' h hh hm
  | iterD ks ag m bs ck L blk n b es h hh hs hb hb2 hm => exact .iterD ks ag m bs ck L blk n b es h hh hs hb hb2 hm
  | iterN ks ag blk n h hh => exact .iterN ks ag blk n h hh
  | pin tgt blk n h ht => exact .pin _ blk n h ht
  | mapP ks m ov bs ck blk n es h hh hsz hst hbl hnd hent hov =>
    rw [Ob.ren]
    refine .mapP ks m _ bs ck blk n es h hh hsz hst hbl hnd (fun i ns u hi => ?_) fun j p hj => ?_
    · obtain ⟨e, h1, h2, h3, h4, h5⟩ := hent i ns u hi
      refine ⟨e, h1, h2, h3, h4, fun hne => h5 fun p hp => ?_⟩
      exact hne (p.ren ρ) (by rw [hp]; rfl)
    · cases ov with
      | none => cases hj
      | some x =>
        obtain ⟨j', p'⟩ := x
        simp only [Option.map_some, Option.some.injEq, Prod.mk.injEq] at hj
        obtain ⟨rfl, rfl⟩ := hj
        obtain ⟨e, h1, h2⟩ := hov _ _ rfl
        exact ⟨e, h1, h2.ren⟩
theorem ObRd.unren {j : Nat} {q : Ob} (h : ObRd w g S j q) : ∀ {id : Nat} {o : Ob}, j = rn ρ id → q = o.ren ρ → ObRd w (fun i => g (rn ρ i)) S id o := by
  intro id o hj hq
  subst hj
  cases h with
  | cells T cs blk n us h hh hl hr h1 =>
    cases o <;> simp only [Ob.ren, reduceCtorEq, Ob.cells.injEq] at hq
    obtain ⟨rfl, rfl⟩ := hq
    rw [renL_map] at hl hr
    exact .cells _ _ blk n us h hh (by simpa using hl) (fun i p u hp hu => (hr i (p.ren ρ) u (by simp [hp]) hu).unren rfl) h1
  | rowNil T k h =>
    cases o <;> simp only [Ob.ren, reduceCtorEq, Ob.row.injEq] at hq
    obtain ⟨rfl, rfl, rfl⟩ := hq
    exact .rowNil _ _ h
  | row T k l blk cap cur h hh hlc hcap hcs hkk hr =>
    cases o <;> simp only [Ob.ren, reduceCtorEq, Ob.row.injEq] at hq
    obtain ⟨rfl, rfl, rfl⟩ := hq
    exact .row _ _ _ blk cap cur h hh hlc hcap hcs hkk hr
  | map ks ag m bs ck blk n es h hh hm =>
    cases o <;> simp only [Ob.ren, reduceCtorEq, Ob.map.injEq] at hq
    obtain ⟨rfl, rfl, rfl, rfl, rfl⟩ := hq
    exact .map _ _ _ _ _ blk n es h hh hm
  | iterO mid bs ck L blk n b n' h hh hm =>
    cases o <;> simp only [Ob.ren, reduceCtorEq, Ob.iterO.injEq] at hq
    obtain ⟨rfl, rfl, rfl, rfl⟩ := hq
    exact .iterO _ _ _ _ blk n b n' h hh hm
  | iterD ks ag m bs ck L blk n b es h hh hs hb hb2 hm =>
    cases o <;> simp only [Ob.ren, reduceCtorEq, Ob.iterD.injEq] at hq
    obtain ⟨rfl, rfl, rfl, rfl, rfl, rfl⟩ := hq
    exact .iterD _ _ _ _ _ _ blk n b es h hh hs hb hb2 hm
  | iterN ks ag blk n h hh =>
    cases o <;> simp only [Ob.ren, reduceCtorEq, Ob.iterD.injEq] at hq
    obtain ⟨rfl, rfl, rfl, rfl, rfl, rfl⟩ := hq
    exact .iterN _ _ blk n h hh
  | pin tgt blk n h ht =>
    cases o <;> simp only [Ob.ren, reduceCtorEq, Ob.pin.injEq] at hq
    obtain ⟨rfl, rfl, rfl⟩ := hq
    exact .pin _ _ _ h ht
  | mapP ks m ov bs ck blk n es h hh hsz hst hbl hnd hent hov =>
    cases o <;> simp only [Ob.ren, reduceCtorEq, Ob.mapP.injEq] at hq
    rename_i ov' _ _
    obtain ⟨rfl, rfl, rfl, rfl, rfl⟩ := hq
    refine .mapP _ _ _ _ _ blk n es h hh hsz hst hbl hnd (fun i ns u hi => ?_) fun j p hj => ?_
    · obtain ⟨e, h1, h2, h3, h4, h5⟩ := hent i ns u hi
      refine ⟨e, h1, h2, h3, h4, fun hne => h5 fun p hp => ?_⟩
      cases ov' with
      | none => cases hp
      | some x =>
        simp only [Option.map_some, Option.some.injEq, Prod.mk.injEq] at hp
        exact hne x.2 (by rw [← hp.1])
    · subst hj
      obtain ⟨e, h1, h2⟩ := hov j (p.ren ρ) rfl
      exact ⟨e, h1, h2.unren rfl⟩
end
end Go.Ep
namespace Go.Ep
open Go.RowKit
def PState.callO (s : PState) (ρ : List (Nat × Nat)) (js : List Nat) (os os' : List (Nat × Ob)) : PState :=
  { n := s.n, sl := (s.junks js).sl, objs := os'.foldr (fun x l => putO (rn ρ x.1) (x.2.ren ρ) l) (os.foldr (fun x l => delO (rn ρ x.1) l) s.objs) }
inductive AllOb (s : PState) (ρ : List (Nat × Nat)) : List (Nat × Ob) → Prop
  | nil : AllOb s ρ []
  | cons {id : Nat} {o : Ob} {r : List (Nat × Ob)} (h : look s.objs (rn ρ id) = some (o.ren ρ)) (t : AllOb s ρ r) : AllOb s ρ ((id, o) :: r)
theorem AllOb.get {s : PState} {ρ : List (Nat × Nat)} {os : List (Nat × Ob)} (h : AllOb s ρ os) : ∀ id o, look os id = some o → look s.objs (rn ρ id) = some (o.ren ρ) := by
  induction h with
  | nil => intro id o h; simp [look] at h
  | cons h _ ih =>
    intro id o hl
    simp only [look] at hl
    split at hl
    · rename_i e; subst e; cases hl; exact h
    · exact ih id o hl
def callOK (s : PState) (ρ : List (Nat × Nat)) (js okeys pins ks : List Nat) : Bool :=
  ((okeys ++ ks).all fun i => (okeys ++ ks).all fun j => Nat.beq i j || !Nat.beq (rn ρ i) (rn ρ j)) && ks.all (fun i => inL okeys i || s.fresh (rn ρ i)) &&
  ks.all fun i => inL pins i || (chkS (rn ρ i) (s.junks js).sl (s.junks js).sl && s.objs.all fun x => !x.2.has (rn ρ i) || inL (okeys.map (rn ρ)) x.1)
theorem lookR {ρ : List (Nat × Nat)} {acc : List (Nat × Ob)} {j : Nat} {o : Ob} : ∀ {l : List (Nat × Ob)}, look (l.foldr (fun x acc => putO (rn ρ x.1) (x.2.ren ρ) acc) acc) j = some o → (∃ i o1, look l i = some o1 ∧ j = rn ρ i ∧ o = o1.ren ρ) ∨ ((∀ i ∈ l.map (·.1), rn ρ i ≠ j) ∧ look acc j = some o)
  | [], h => .inr ⟨by simp, h⟩
  | (k, q) :: r, h => by
    rw [List.foldr_cons, look_putO] at h
    by_cases e : j = rn ρ k
    · rw [if_pos e] at h
      exact .inl ⟨k, q, by simp [look], e, by simpa using h.symm⟩
    · rw [if_neg e] at h
      rcases lookR h with ⟨i, o1, h1, h2, h3⟩ | ⟨h1, h2⟩
      · refine .inl ⟨i, o1, ?_, h2, h3⟩
        simp only [look]
        rw [if_neg (fun e2 => e (by rw [h2, e2]))]
        exact h1
      · refine .inr ⟨fun i hi => ?_, h2⟩
        simp only [List.map_cons, List.mem_cons] at hi
        rcases hi with rfl | hi
        · exact fun e2 => e e2.symm
        · exact h1 i hi
theorem lookD {ρ : List (Nat × Nat)} {acc : List (Nat × Ob)} {j : Nat} {o : Ob} : ∀ {l : List (Nat × Ob)}, look (l.foldr (fun x acc => delO (rn ρ x.1) acc) acc) j = some o → (∀ i ∈ l.map (·.1), rn ρ i ≠ j) ∧ look acc j = some o
  | [], h => ⟨by simp, h⟩
  | (k, q) :: r, h => by
    rw [List.foldr_cons, look_delO] at h
    by_cases e : j = rn ρ k
    · rw [if_pos e] at h; cases h
    · rw [if_neg e] at h
      obtain ⟨h1, h2⟩ := lookD h
      refine ⟨fun i hi => ?_, h2⟩
      simp only [List.map_cons, List.mem_cons] at hi
      rcases hi with rfl | hi
      · exact fun e2 => e e2.symm
      · exact h1 i hi
theorem look_key {l : List (Nat × Ob)} {i : Nat} {o : Ob} (h : look l i = some o) : i ∈ l.map (·.1) := List.mem_map.2 ⟨(i, o), look_mem h, rfl⟩
section
variable {P : Program} {ctx : Ctx} {s : PState}
theorem callObj_core {G : Type} {f : FuncId} {ps qs : List PV} {os : List (Nat × Ob)} {pins : List Nat} {r : PV} {os' : G → List (Nat × Ob)} (ρ : List (Nat × Nat)) (js ks : List Nat) (hc : PObj P f ps os pins r os') (hK : ∀ b, ctx.K b → ctx.S b) (hq : qs.map PV.nilD = ps.map (PV.ren ρ)) (hos : AllOb s ρ os)
    (hks : ∀ gh, (os' gh).map (·.1) = ks) (hcl : ∀ gh, (os' gh).all (fun x => x.2.named ks) = true) (hr : r.named ks = true) (hok : callOK s ρ js (os.map (·.1)) pins ks = true) {g : Ghost} {a : Act} {w : World} (hg : RelG ctx g s a w) {vs : List Value} (hlen : qs.length = vs.length)
    (hreal : ∀ (i : Nat) (q : PV) (v : Value), qs[i]? = some q → vs[i]? = some v → Rd w g (Free ctx g s.objs) q v) (dst : Option Nat) :
    Calls P f vs.toArray w (fun e w' => ∃ u gh, e = .returned u ∧ Rel ctx ((s.callO ρ js os (os' gh)).putD dst (r.ren ρ)) (a.put dst u) w') := by
  let g0 : Ghost := fun i => g (rn ρ i)
  have hlo := hos.get
  simp only [callOK, Bool.and_eq_true, List.all_eq_true, Bool.or_eq_true, Bool.not_eq_true'] at hok
  obtain ⟨⟨hinj0, hfresh⟩, hnm⟩ := hok
  have hinj : ∀ i j, i ∈ os.map (·.1) ++ ks → j ∈ os.map (·.1) ++ ks → rn ρ i = rn ρ j → i = j := fun i j hi hj e => by
    rcases hinj0 i hi j hj with h | h
    · exact Nat.eq_of_beq_eq_true h
    · rw [e, Nat.beq_refl] at h; cases h
  have hdis : ∀ b, Free ctx g s.objs b → ¬ OwnB g0 os b := fun b hb ⟨id, o, n, h1, h2⟩ => hb.2 _ _ n (hlo id o h1) h2
  have hobs : ObsRd w g0 (Free ctx g s.objs) os := ⟨fun id o h => (hg.objs _ _ (hlo id o h)).unren rfl rfl,
    fun i j oi oj b n m hi hj hgi hgj => hinj i j (List.mem_append_left _ (look_key hi)) (List.mem_append_left _ (look_key hj)) (hg.inj _ _ _ _ b n m (hlo i oi hi) (hlo j oj hj) hgi hgj),
    fun id o b n h h2 => (hg.own _ _ b n (hlo id o h) h2).1⟩
  have hpl : ps.length = qs.length := by have := congrArg List.length hq; simpa using this.symm
  refine (hc w g0 (Free ctx g s.objs) vs (by omega) (fun i p v hp hv => ?_) hobs hdis).mono fun e w' ⟨u, g', gh, he, hpost⟩ => ⟨u, gh, he, ?_⟩
  · cases hqi : qs[i]? with
    | none => have := List.getElem?_eq_none_iff.1 hqi; have := (List.getElem?_eq_some_iff.1 hp).1; omega
    | some q =>
      have h1 : (qs.map PV.nilD)[i]? = (ps.map (PV.ren ρ))[i]? := by rw [hq]
      rw [List.getElem?_map, List.getElem?_map, hqi, hp] at h1
      simp only [Option.map_some, Option.some.injEq] at h1
      exact (hreal i q v hqi hv).nilD.unren h1
  have hks' := hks gh
  have hcl' := hcl gh
  generalize os' gh = os1 at hpost hks' hcl' ⊢
  let G' : Ghost := fun j => match ks.find? (fun i => Nat.beq (rn ρ i) j) with | some i => g' i | none => g j
  have hG1 : ∀ i ∈ ks, G' (rn ρ i) = g' i := fun i hi => by
    show (match ks.find? (fun k => Nat.beq (rn ρ k) (rn ρ i)) with | some i => g' i | none => g (rn ρ i)) = g' i
    cases hf : ks.find? (fun k => Nat.beq (rn ρ k) (rn ρ i)) with
    | none => have := List.find?_eq_none.1 hf i hi; simp at this
    | some k =>
      have h1 := List.find?_some hf
      have h2 := List.mem_of_find?_eq_some hf
      rw [hinj k i (List.mem_append_right _ h2) (List.mem_append_right _ hi) (Nat.eq_of_beq_eq_true h1)]
  have hG2 : ∀ j, (∀ i ∈ ks, rn ρ i ≠ j) → G' j = g j := fun j hj => by
    show (match ks.find? (fun k => Nat.beq (rn ρ k) j) with | some i => g' i | none => g j) = g j
    cases hf : ks.find? (fun k => Nat.beq (rn ρ k) j) with
    | none => rfl
    | some k => exact absurd (Nat.eq_of_beq_eq_true (by simpa using List.find?_some hf)) (hj k (List.mem_of_find?_eq_some hf))
  have hlookN : ∀ j o, look (s.callO ρ js os os1).objs j = some o → (∃ i o1, look os1 i = some o1 ∧ j = rn ρ i ∧ o = o1.ren ρ ∧ i ∈ ks) ∨ ((∀ i ∈ ks, rn ρ i ≠ j) ∧ (∀ i ∈ os.map (·.1), rn ρ i ≠ j) ∧ look s.objs j = some o) := fun j o h => by
    rcases lookR h with ⟨i, o1, h1, h2, h3⟩ | ⟨h1, h2⟩
    · exact .inl ⟨i, o1, h1, h2, h3, hks' ▸ look_key h1⟩
    · obtain ⟨h3, h4⟩ := lookD h2
      exact .inr ⟨fun i hi => h1 i (hks' ▸ hi), h3, h4⟩
  have freeS : ∀ b, Free ctx g s.objs b → b < w.heap.size → Free ctx G' (s.callO ρ js os os1).objs b := fun b hb hlt => ⟨hb.1, fun j o n hj hgj => by
    rcases hlookN j o hj with ⟨i, o1, h1, h2, _, hik⟩ | ⟨h1, _, h3⟩
    · rw [h2, hG1 i hik] at hgj
      rcases hpost.own b ⟨i, o1, n, h1, hgj⟩ with h | h
      · exact hdis b hb h
      · omega
    · rw [hG2 j h1] at hgj
      exact hb.2 j o n h3 hgj⟩
  have freeA : ∀ b, After w g0 (Free ctx g s.objs) os g' os1 b → Free ctx G' (s.callO ρ js os os1).objs b := fun b ⟨h1, h2⟩ => ⟨by
    rcases h1 with h1 | ⟨id, o, n, h1, h3⟩ | h1
    · exact h1.1
    · rcases (hg.own _ _ b n (hlo id o h1) h3).2 with h4 | h4
      · exact .inr h4
      · exact .inl (hK b h4)
    · exact .inr (Nat.le_trans hg.grows h1), fun j o n hj hgj => by
    rcases hlookN j o hj with ⟨i, o1, h3, h4, _, hik⟩ | ⟨h3, h4, h5⟩
    · rw [h4, hG1 i hik] at hgj
      exact h2 ⟨i, o1, n, h3, hgj⟩
    · rw [hG2 j h3] at hgj
      rcases h1 with h1 | ⟨id, o', n', h1, h6⟩ | h1
      · exact h1.2 j o n h5 hgj
      · exact h4 id (look_key h1) (hg.inj j (rn ρ id) o _ b n n' h5 (hlo id o' h1) hgj h6).symm
      · have := (hg.own j o b n h5 hgj).1; omega⟩
  have hst : Stays w w' (Free ctx g s.objs) := ⟨hpost.grows, fun b hb hlt => hpost.keep b hlt (hdis b hb)⟩
  -- what is named elsewhere keeps its ghost
  have hslot : ∀ i p, (s.junks js).at i = some p → ∀ j, p.has j = true → G' j = g j := fun i p hp j hj => by
    by_cases hex : ∃ k ∈ ks, rn ρ k = j
    · obtain ⟨k, hk, rfl⟩ := hex
      rw [hG1 k hk]
      rcases hnm k hk with h | ⟨h, _⟩
      · exact hpost.pin k (inL_iff.1 h)
      · rw [chkS_at (s := s.junks js) h hp] at hj; cases hj
    · exact hG2 j fun k hk e => hex ⟨k, hk, e⟩
  have hother : ∀ j o, look s.objs j = some o → (∀ i ∈ os.map (·.1), rn ρ i ≠ j) → ∀ jj, o.has jj = true → G' jj = g jj := fun j o hj hno jj hjj => by
    by_cases hex : ∃ k ∈ ks, rn ρ k = jj
    · obtain ⟨k, hk, rfl⟩ := hex
      rw [hG1 k hk]
      rcases hnm k hk with h | ⟨_, h⟩
      · exact hpost.pin k (inL_iff.1 h)
      · rcases h _ (look_mem hj) with h2 | h2
        · rw [hjj] at h2; cases h2
        · obtain ⟨i, hi, he⟩ := List.mem_map.1 (inL_iff.1 h2)
          exact absurd he (hno i hi)
    · exact hG2 jj fun k hk e => hex ⟨k, hk, e⟩
  have hnown : ∀ j o b n, look s.objs j = some o → (∀ i ∈ os.map (·.1), rn ρ i ≠ j) → g j = some (b, n) → ¬ OwnB g0 os b := fun j o b n hj hno hgj ⟨id, o', n', h1, h2⟩ =>
    hno id (look_key h1) (hg.inj j (rn ρ id) o _ b n n' hj (hlo id o' h1) hgj h2).symm
  have main : RelG ctx G' (s.callO ρ js os os1) a w' := by
    refine ⟨hg.defers, hg.size, fun i p hp => ?_, fun j o hj => ?_, fun i j oi oj b n m hi hj hgi hgj => ?_, fun j o b n hj hgj => ?_, hpost.eos.trans hg.os, hpost.tape.trans hg.tape, hpost.output.trans hg.output, Nat.le_trans hg.grows hpost.grows, fun k hk hkK => ?_⟩
    · have hp' : (s.junks js).at i = some p := by
        rw [at_eq, junks_n]
        rw [at_eq] at hp
        exact hp
      have h := (hg.junks js).slots i p hp'
      rw [junks_objs] at h
      exact h.keep hst freeS (hslot i p hp')
    · rcases hlookN j o hj with ⟨i, o1, h1, rfl, rfl, hik⟩ | ⟨h1, h2, h3⟩
      · refine ObRd.ren ?_
        have hst' : Stays w' w' (After w g0 (Free ctx g s.objs) os g' os1) := ⟨Nat.le_refl _, fun _ _ _ => rfl⟩
        have hn := (List.all_eq_true.1 hcl') _ (look_mem h1)
        exact (hpost.obs.rd i o1 h1).keep hst' (fun b hb _ => freeA b hb) (fun _ _ _ => rfl) (hG1 i hik) (fun jj hjj => hG1 jj (Ob.named_has hn hjj))
      · exact (hg.objs j o h3).keep hst freeS (fun b n hgj => hpost.keep b (hg.own j o b n h3 hgj).1 (hnown j o b n h3 h2 hgj)) (hG2 j h1) (hother j o h3 h2)
    · rcases hlookN i oi hi with ⟨k, o1, h1, rfl, _, hik⟩ | ⟨h1, h2, h3⟩
      · rw [hG1 k hik] at hgi
        rcases hlookN j oj hj with ⟨k2, o2, h4, rfl, _, hik2⟩ | ⟨h4, h5, h6⟩
        · rw [hG1 k2 hik2] at hgj
          rw [hpost.obs.inj k k2 o1 o2 b n m h1 h4 hgi hgj]
        · rw [hG2 j h4] at hgj
          exfalso
          rcases hpost.own b ⟨k, o1, n, h1, hgi⟩ with h | h
          · exact hnown j oj b m h6 h5 hgj h
          · have := (hg.own j oj b m h6 hgj).1; omega
      · rw [hG2 i h1] at hgi
        rcases hlookN j oj hj with ⟨k2, o2, h4, rfl, _, hik2⟩ | ⟨h4, h5, h6⟩
        · rw [hG1 k2 hik2] at hgj
          exfalso
          rcases hpost.own b ⟨k2, o2, m, h4, hgj⟩ with h | h
          · exact hnown i oi b n h3 h2 hgi h
          · have := (hg.own i oi b n h3 hgi).1; omega
        · rw [hG2 j h4] at hgj
          exact hg.inj i j oi oj b n m h3 h6 hgi hgj
    · rcases hlookN j o hj with ⟨k, o1, h1, rfl, _, hik⟩ | ⟨h1, h2, h3⟩
      · rw [hG1 k hik] at hgj
        refine ⟨hpost.obs.lt k o1 b n h1 hgj, ?_⟩
        rcases hpost.own b ⟨k, o1, n, h1, hgj⟩ with ⟨id, o', n', h4, h5⟩ | h
        · exact (hg.own _ _ b n' (hlo id o' h4) h5).2
        · exact .inl (Nat.le_trans hg.grows h)
      · rw [hG2 j h1] at hgj
        obtain ⟨h4, h5⟩ := hg.own j o b n h3 hgj
        exact ⟨Nat.lt_of_lt_of_le h4 hpost.grows, h5⟩
    · refine (hpost.keep k (Nat.lt_of_lt_of_le hk hg.grows) fun ⟨id, o, n, h1, h2⟩ => ?_).trans (hg.keep k hk hkK)
      rcases (hg.own _ _ k n (hlo id o h1) h2).2 with h | h
      · omega
      · exact hkK h
  refine ⟨G', main.put dst ?_⟩
  have hst' : Stays w' w' (After w g0 (Free ctx g s.objs) os g' os1) := ⟨Nat.le_refl _, fun _ _ _ => rfl⟩
  exact (hpost.res.keep (w' := w') (g' := fun i => G' (rn ρ i)) hst' (fun b hb _ => freeA b hb) (fun jj hjj => hG1 jj (PV.named_has hr hjj))).ren
end
end Go.Ep
namespace Go.Ep
open Go.RowKit
section
variable {P : Program} {ctx : Ctx} {Q : PQ} {s : PState}
variable {dst : Option Tmp} {ty : TypeId} {pos : String} {after : Array Edge} {gd : Option (Nat × Bool)}
theorem evs_rd {xs : List Operand} {ps : List PV} (hps : s.evs xs = some ps) {a : Act} {w : World} {g : Ghost} (hg : RelG ctx g s a w) :
    ps.length = (xs.map a.eval).length ∧ ∀ (i : Nat) (p : PV) (v : Value), ps[i]? = some p → (xs.map a.eval)[i]? = some v → Rd w g (Free ctx g s.objs) p v := by
  refine ⟨by simpa using evs_len hps, fun i p v hp hv => ?_⟩
  rw [List.getElem?_map] at hv
  cases hx : xs[i]? with
  | none => simp [hx] at hv
  | some x =>
    simp [hx] at hv
    subst hv
    exact hg.ev (evs_get hps hp hx)
/-- A call of a function that is handed objects; G: what is not told of them (the ghosts of maps). -/
theorem PWl.callObj {G : Type} {ops : Array Oper} {rest : List Oper} {x : Operand} {xs : List Operand} {ats : Array TypeId} {f : FuncId} {ps qs : List PV} {os : List (Nat × Ob)} {pins : List Nat} {r : PV} {os' : G → List (Nat × Ob)} (ρ : List (Nat × Nat)) (js ks : List Nat)
    (hc : PObj P f ps os pins r os') (hK : ∀ b, ctx.K b → ctx.S b) (hx : s.ev x = some (.d (.v (.func (.func f) #[] #[])))) (he : ∀ args w, (callFunc f args).run P w = .ok (.enter f args) w) (hps : s.evs xs = some qs) (hq : qs.map PV.nilD = ps.map (PV.ren ρ)) (hos : AllOb s ρ os)
    (hks : ∀ gh, (os' gh).map (·.1) = ks) (hcl : ∀ gh, (os' gh).all (fun x => x.2.named ks) = true) (hr : r.named ks = true) (hok : callOK s ρ js (os.map (·.1)) pins ks = true) (hgd : gd = none)
    (h : ∀ gh, PWl P ctx ops Q rest ((s.callO ρ js os (os' gh)).putD dst (r.ren ρ))) : PWl P ctx ops Q (⟨dst, .call ⟨.value x, xs.toArray, ats⟩, ty, pos, after, gd⟩ :: rest) s := by
  rintro a w ⟨g, hg⟩
  refine wpList_plain hgd fun K hK2 => ?_
  obtain ⟨hlen, hreal⟩ := evs_rd hps hg
  unfold Oper.wp
  rw [exec_call (o := ⟨dst, .call ⟨.value x, xs.toArray, ats⟩, ty, pos, after, gd⟩) rfl (ev_v hg hx) he w]
  rw [List.map_toArray]
  refine (callObj_core ρ js ks hc hK hq hos hks hcl hr hok hg hlen hreal dst).mono fun en w' ⟨u, gh, he, hrel⟩ => ?_
  subst he
  exact hK2 _ _ (h gh _ _ hrel)
theorem LR.callObj {x : Operand} {xs : List Operand} {ats : Array TypeId} {f : FuncId} {ps qs : List PV} {os os' : List (Nat × Ob)} {pins : List Nat} {r : PV} (ρ : List (Nat × Nat)) (js ks : List Nat)
    (hc : PObj P f ps os pins r (fun _ : Unit => os')) (hK : ∀ b, ctx.K b → ctx.S b) (hx : s.ev x = some (.d (.v (.func (.func f) #[] #[])))) (he : ∀ args w, (callFunc f args).run P w = .ok (.enter f args) w) (hps : s.evs xs = some qs) (hq : qs.map PV.nilD = ps.map (PV.ren ρ)) (hos : AllOb s ρ os)
    (hks : os'.map (·.1) = ks) (hcl : os'.all (fun x => x.2.named ks) = true) (hr : r.named ks = true) (hok : callOK s ρ js (os.map (·.1)) pins ks = true) :
    Local P ctx ⟨dst, .call ⟨.value x, xs.toArray, ats⟩, ty, pos, after, gd⟩ s ((s.callO ρ js os os').putD dst (r.ren ρ)) :=
  local_enter (o := ⟨dst, .call ⟨.value x, xs.toArray, ats⟩, ty, pos, after, gd⟩) fun a w g hg => by
    obtain ⟨hlen, hreal⟩ := evs_rd hps hg
    refine ⟨f, _, exec_call (o := ⟨dst, .call ⟨.value x, xs.toArray, ats⟩, ty, pos, after, gd⟩) rfl (ev_v hg hx) he w, ?_⟩
    rw [List.map_toArray]
    exact (callObj_core ρ js ks hc hK hq hos (fun _ => hks) (fun _ => hcl) hr hok hg hlen hreal dst).mono fun en w' ⟨u, _, he, hrel⟩ => ⟨u, he, hrel⟩
end
end Go.Ep
namespace Go.Ep
theorem look_left {a b : List (Nat × Ob)} {id : Nat} {o : Ob} (h : look a id = some o) : look (a ++ b) id = some o := by rw [look_append, h]; rfl
theorem EndsO.mk {G : Type} {P : Program} {ctx : Ctx} {fn : Func} {pl : List (Nat × Ob)} {r : PV} {os' : G → List (Nat × Ob)} {e : Exit} {s : PState} (gh : G) {n : Nat} {sl : List (Nat × PV)} {ps : List PV} (he : e = .normal ∨ e = .ret) (hsub : Sub ctx s ⟨n, sl, os' gh ++ pl⟩)
    (hres : ResLO P ⟨n, sl, os' gh ++ pl⟩ fn.results.toList ps) (hq : tupOf ps = r) (hd : (pl.all fun x => !inL ((os' gh).map (·.1)) x.1) = true) : EndsO P ctx fn pl r os' e s := by
  refine ⟨he, gh, ps, _, hsub, hres, hq, fun id o h => look_left h, fun id o h => ?_⟩
  show look (os' gh ++ pl) id = some o
  rw [look_append]
  cases hl : look (os' gh) id with
  | none => rw [Option.none_or]; exact h
  | some q =>
    have h1 := List.all_eq_true.1 hd _ (look_mem h)
    have h2 := inL_iff.2 (look_key hl)
    simp only at h1
    rw [h2] at h1
    cases h1
end Go.Ep
namespace Go.Ep
open Go.RowKit
section
variable {P : Program} {ctx : Ctx} {Q : PQ} {s : PState}
variable {dst : Option Tmp} {ty : TypeId} {pos : String} {after : Array Edge} {gd : Option (Nat × Bool)}
theorem pointee_of {t e : TypeId} (hu : P.underlying t = some (.pointer e)) : P.underlying t = some (.pointer (P.pointee t)) := by
  rw [hu]; simp [Program.pointee, hu]
theorem eval_ref {x : Operand} {id off : Nat} (hx : s.ev x = some (.ref id off)) {a : Act} {w : World} {g : Ghost} (hg : RelG ctx g s a w) : ∃ b, a.eval x = .pointer (some b) := by
  have h := hg.ev hx
  generalize a.eval x = v at h
  cases h with
  | ref _ _ blk n hgi => exact ⟨_, rfl⟩
theorem LR.eqlPtr {x : Operand} {id off : Nat} {t t' e : TypeId} (hu : P.underlying t = some (.pointer e)) (hx : s.ev x = some (.ref id off)) :
    Local P ctx ⟨dst, .binOp .eql t x (.const (.pointer none)) t', ty, pos, after, gd⟩ s (s.putD dst (.d (.v (.bool false)))) :=
  local_pure (o := ⟨dst, .binOp .eql t x (.const (.pointer none)) t', ty, pos, after, gd⟩) fun a w g hg => by
    obtain ⟨b, hb⟩ := eval_ref hx hg
    have hc : a.eval (.const (.pointer none)) = .pointer none := rfl
    exact ⟨.bool false, by simp [execOp, hb, hc, eqGuard_at_pointer, run_eql_pointer_nil (P := P) w t _ (pointee_of hu)], .d (.v _ rfl)⟩
theorem LR.neqPtr {x : Operand} {id off : Nat} {t t' e : TypeId} (hu : P.underlying t = some (.pointer e)) (hx : s.ev x = some (.ref id off)) :
    Local P ctx ⟨dst, .binOp .neq t x (.const (.pointer none)) t', ty, pos, after, gd⟩ s (s.putD dst (.d (.v (.bool true)))) :=
  local_pure (o := ⟨dst, .binOp .neq t x (.const (.pointer none)) t', ty, pos, after, gd⟩) fun a w g hg => by
    obtain ⟨b, hb⟩ := eval_ref hx hg
    have hc : a.eval (.const (.pointer none)) = .pointer none := rfl
    exact ⟨.bool true, by simp [execOp, hb, hc, eqGuard_at_pointer, run_neq_pointer_nil (P := P) w t _ (pointee_of hu)], .d (.v _ rfl)⟩
end
end Go.Ep
namespace Go.Ep
open Go.RowKit
section
variable {ctx : Ctx} {s : PState}
/-- A cell with the nil slice: a row of one's own, without elements. -/
theorem Sub.ownNil {id j id' k : Nat} {e T : TypeId} {cs : List PV} (hl : look s.objs id = some (.cells T cs)) (hj : cs[j]? = some (.d (.v (.slice none 0 0)))) (hf : s.fresh id' = true) (hne : Nat.beq id id' = false) :
    Sub ctx s { s with objs := putO id (.cells T (cs.set j (.row id' 0))) (putO id' (.row e k []) s.objs) } := by
  rintro a w ⟨g, hg⟩
  have hne' : id ≠ id' := fun h => by rw [h, Nat.beq_refl] at hne; cases hne
  have h1 := hg.new (Below.refl _ w) hf none (fun b n e => by cases e) (.row e k []) (.rowNil e k (upd_same _ _ _))
  have hl1 : look (putO id' (.row e k []) s.objs) id = some (.cells T cs) := by rw [look_putO, if_neg hne']; exact hl
  refine ⟨upd g id' none, ?_⟩
  have hF : ∀ b, Free ctx (upd g id' none) (putO id' (.row e k []) s.objs) b → Free ctx (upd g id' none) (putO id (.cells T (cs.set j (.row id' 0))) (putO id' (.row e k []) s.objs)) b := fun b hb => ⟨hb.1, fun i o n ho hgi => by
    rw [look_putO] at ho
    by_cases ei : i = id
    · subst ei; exact hb.2 i _ n hl1 hgi
    · rw [if_neg ei] at ho; exact hb.2 i o n ho hgi⟩
  have hst : Stays w w (Free ctx (upd g id' none) (putO id' (.row e k []) s.objs)) := ⟨Nat.le_refl _, fun _ _ _ => rfl⟩
  refine ⟨h1.defers, h1.size, fun i p hp => (h1.slots i p hp).keep hst (fun b hb _ => hF b hb) (fun _ _ => rfl), fun i o ho => ?_, fun i i2 o o2 b n m ho ho2 hgi hgi2 => ?_, fun i o b n ho hgi => ?_, h1.os, h1.tape, h1.output, h1.grows, h1.keep⟩
  · rw [look_putO] at ho
    by_cases ei : i = id
    · subst ei
      rw [if_pos rfl] at ho
      cases ho
      cases (h1.objs i _ hl1).keep hst (fun b hb _ => hF b hb) (fun _ _ _ => rfl) rfl (fun _ _ => rfl) with
      | cells _ _ blk n us hgi hh hlen hr h1' =>
        refine .cells T _ blk n us hgi hh (by simpa using hlen) (fun q p u hp hu => ?_) h1'
        by_cases ej : q = j
        · subst ej
          have hlt : q < cs.length := (List.getElem?_eq_some_iff.1 hj).1
          rw [List.getElem?_set_self hlt] at hp
          cases hp
          have := (hr q _ u hj hu).of_v
          subst this
          exact .rowNil id' (upd_same _ _ _)
        · rw [List.getElem?_set_ne (Ne.symm ej)] at hp
          exact hr q p u hp hu
    · rw [if_neg ei] at ho
      exact (h1.objs i o ho).keep hst (fun b hb _ => hF b hb) (fun _ _ _ => rfl) rfl (fun _ _ => rfl)
  · rw [look_putO] at ho ho2
    have key : ∀ q o, (if q = id then some (Ob.cells T (cs.set j (.row id' 0))) else look (putO id' (.row e k []) s.objs) q) = some o → ∃ o', look (putO id' (.row e k []) s.objs) q = some o' := fun q o hq => by
      by_cases eq : q = id
      · subst eq; exact ⟨_, hl1⟩
      · rw [if_neg eq] at hq; exact ⟨o, hq⟩
    obtain ⟨p1, q1⟩ := key i o ho
    obtain ⟨p2, q2⟩ := key i2 o2 ho2
    exact h1.inj i i2 p1 p2 b n m q1 q2 hgi hgi2
  · rw [look_putO] at ho
    by_cases ei : i = id
    · subst ei; exact h1.own i _ b n hl1 hgi
    · rw [if_neg ei] at ho; exact h1.own i o b n ho hgi
end
end Go.Ep
namespace Go.Ep
open Go.RowKit
section
variable {P : Program} {ctx : Ctx} {Q : PQ} {s : PState}
variable {dst : Option Tmp} {ty : TypeId} {pos : String} {after : Array Edge} {gd : Option (Nat × Bool)}
/-- A new struct, its cells as they stand. -/
theorem LR.allocR {id : Nat} {T : TypeId} {z : Value} {zs : List Value} {cs : List PV} (hz : ∀ w, (zeroValue T).run P w = .ok z w) (hzs : z.cells = zs.toArray) (h1 : (zs.all Value.oneCell') = true) (hcs : zs.map (fun x => PV.d (.v x)) = cs) (hf : s.fresh id = true) :
    Local P ctx ⟨some id, .alloc T, ty, pos, after, gd⟩ s (s.newO id (.cells T cs) (.ref id 0)) := by
  subst hcs
  refine local_new (o := ⟨some id, .alloc T, ty, pos, after, gd⟩) rfl T _ hf (fun a w g hg => ⟨zs, ?_, by simp, ?_, by simpa using h1⟩) ?_
  · simp [execOp, Instr.alloc, hz, newVar, newRow, hzs, Result.andThen]
  · intro i p u hp hu
    simp [hu] at hp
    subst hp
    exact .d (.v u (by simp at h1; exact h1 u (List.mem_of_getElem? hu)))
  · intro p hp
    simp only [List.mem_map] at hp
    obtain ⟨x, _, rfl⟩ := hp
    rfl
end
end Go.Ep
namespace Go.Ep
open Go.RowKit
section
variable {ctx : Ctx} {s : PState}
/-- A cell's value is forgotten. -/
theorem Sub.junkCell {id j : Nat} {T : TypeId} {cs : List PV} (hl : look s.objs id = some (.cells T cs)) : Sub ctx s { s with objs := putO id (.cells T (cs.set j .junk)) s.objs } := by
  rintro a w ⟨g, h1⟩
  refine ⟨g, ?_⟩
  have hF : ∀ b, Free ctx g s.objs b → Free ctx g (putO id (.cells T (cs.set j .junk)) s.objs) b := fun b hb => ⟨hb.1, fun i o n ho hgi => by
    rw [look_putO] at ho
    by_cases ei : i = id
    · subst ei; exact hb.2 i _ n hl hgi
    · rw [if_neg ei] at ho; exact hb.2 i o n ho hgi⟩
  have hst : Stays w w (Free ctx g s.objs) := ⟨Nat.le_refl _, fun _ _ _ => rfl⟩
  refine ⟨h1.defers, h1.size, fun i p hp => (h1.slots i p hp).keep hst (fun b hb _ => hF b hb) (fun _ _ => rfl), fun i o ho => ?_, fun i i2 o o2 b n m ho ho2 hgi hgi2 => ?_, fun i o b n ho hgi => ?_, h1.os, h1.tape, h1.output, h1.grows, h1.keep⟩
  · rw [look_putO] at ho
    by_cases ei : i = id
    · subst ei
      rw [if_pos rfl] at ho
      cases ho
      cases (h1.objs i _ hl).keep hst (fun b hb _ => hF b hb) (fun _ _ _ => rfl) rfl (fun _ _ => rfl) with
      | cells _ _ blk n us hgi hh hlen hr h1' =>
        refine .cells T _ blk n us hgi hh (by simpa using hlen) (fun q p u hp hu => ?_) h1'
        by_cases ej : q = j
        · subst ej
          have hlt : q < cs.length := by have := (List.getElem?_eq_some_iff.1 hp).1; simpa using this
          rw [List.getElem?_set_self hlt] at hp
          cases hp
          exact .junk u
        · rw [List.getElem?_set_ne (Ne.symm ej)] at hp
          exact hr q p u hp hu
    · rw [if_neg ei] at ho
      exact (h1.objs i o ho).keep hst (fun b hb _ => hF b hb) (fun _ _ _ => rfl) rfl (fun _ _ => rfl)
  · rw [look_putO] at ho ho2
    have key : ∀ q o, (if q = id then some (Ob.cells T (cs.set j .junk)) else look s.objs q) = some o → ∃ o', look s.objs q = some o' := fun q o hq => by
      by_cases eq : q = id
      · subst eq; exact ⟨_, hl⟩
      · rw [if_neg eq] at hq; exact ⟨o, hq⟩
    obtain ⟨p1, q1⟩ := key i o ho
    obtain ⟨p2, q2⟩ := key i2 o2 ho2
    exact h1.inj i i2 p1 p2 b n m q1 q2 hgi hgi2
  · rw [look_putO] at ho
    by_cases ei : i = id
    · subst ei; exact h1.own i _ b n hl hgi
    · rw [if_neg ei] at ho; exact h1.own i o b n ho hgi
end
end Go.Ep

