/- Walks over pure states whose data is typed, beside a computation that says what they answer. No program in sight. -/
import Derived.Test.YtacnidaafcfgiaaGreatEp15
import Derived.Test.YtacnidaafcfgiaaGreatMd
namespace Go.Ep
open Go.RowKit

/-! ### A computation, taken apart -/
section
variable {α β : Type} {Q : β → Prop}
theorem iIdx {l : List α} {i : Int} {k : α → M β} (h : ((M.idx l i).bind k).wp Q) : ∃ y, (0 ≤ i ∧ l[i.toNat]? = some y) ∧ (k y).wp Q := h
theorem iNeed {p : Prop} {x : M β} (h : (M.need p x).wp Q) : p ∧ x.wp Q := h
theorem iCut {l : List α} {lo hi : Int} {k : List α → M β} (h : ((M.cut l lo hi).bind k).wp Q) : (0 ≤ lo ∧ lo ≤ hi ∧ hi ≤ l.length) ∧ (k ((l.take hi.toNat).drop lo.toNat)).wp Q := h
theorem iApp {bs : Nat} {l r : List α} {k : List α → M β} (h : ((M.app bs l r).bind k).wp Q) : ((l.length + r.length) * bs ≤ 140737488355328) ∧ (k (l ++ r)).wp Q := h
theorem iUpd {l : List α} {i : Int} {y : α} {k : List α → M β} (h : ((M.upd l i y).bind k).wp Q) : (0 ≤ i ∧ i < l.length) ∧ (k (l.set i.toNat y)).wp Q := h
theorem iDet {x : M α} {k : α → M β} (h : (x.det.bind k).wp Q) : ∃ r, x.wp (· = r) ∧ (k r).wp Q := h
theorem iNxt {n : Nat} {L : List Nat} {k : Option Nat → M β} (h : ((M.nxt n L).bind k).wp Q) : ((∀ i, i < n → i ∈ L) → (k none).wp Q) ∧ ∀ i, i < n → i ∉ L → (k (some i)).wp Q := ⟨fun h0 => h.2 none h0, fun i h1 h2 => h.2 (some i) ⟨h1, h2⟩⟩
theorem iSrt {lt : α → α → Bool} {l : List α} {k : List α → M β} (h : ((M.srt lt l).bind k).wp Q) : ∀ l' : List α, l'.Perm l → l'.Pairwise (fun x y => lt y x = false) → (k l').wp Q := fun l' h1 h2 => h.2 l' ⟨h1, h2⟩
theorem iNil {l : List α} {k : Bool → M β} (h : ((M.isNil l).bind k).wp Q) : ∀ b, (b = true → l = []) → (k b).wp Q := fun b hb => h.2 b hb
theorem iBind {x : M α} {k : α → M β} (h : (x.bind k).wp Q) : x.wp fun a => (k a).wp Q := h
theorem iT {b : Bool} {x y : M β} (hb : b = true) (h : (cond b x y).wp Q) : x.wp Q := by subst hb; exact h
theorem iF {b : Bool} {x y : M β} (hb : b = false) (h : (cond b x y).wp Q) : y.wp Q := by subst hb; exact h
end

/-! ### Maps -/
def encM {κ ν : Type} (eK : κ → List Int) (eV : ν → List DV) (m : List (κ × ν)) : Mp := m.map fun x => (eK x.1, eV x.2)
section
variable {κ ν : Type} [DecidableEq κ] {eK : κ → List Int} {eV : ν → List DV} (inj : ∀ a b, eK a = eK b → a = b)
include inj
theorem mget_encM (m : List (κ × ν)) (k : κ) : mget (encM eK eV m) (eK k) = (AL.get m k).map eV := by
  induction m with
  | nil => rfl
  | cons x r ih =>
    obtain ⟨a, v⟩ := x
    show (if eK a = eK k then _ else _) = _
    by_cases h : a = k
    · subst h; simp [AL.get]
    · rw [if_neg (fun e => h (inj _ _ e))]
      simp only [AL.get, h, if_false]
      exact ih
theorem mset_encM (m : List (κ × ν)) (k : κ) (v : ν) : mset (encM eK eV m) (eK k) (eV v) = encM eK eV (AL.set m k v) := by
  induction m with
  | nil => rfl
  | cons x r ih =>
    obtain ⟨a, u⟩ := x
    show (if eK a = eK k then _ else _) = _
    by_cases h : a = k
    · subst h; simp [AL.set, encM]
    · rw [if_neg (fun e => h (inj _ _ e))]
      simp only [AL.set, h, if_false]
      show _ :: mset (encM eK eV r) _ _ = _ :: encM eK eV (AL.set r k v)
      rw [ih]
theorem mdel_encM (m : List (κ × ν)) (k : κ) : mdel (encM eK eV m) (eK k) = encM eK eV (AL.del m k) := by
  induction m with
  | nil => rfl
  | cons x r ih =>
    obtain ⟨a, u⟩ := x
    show (if eK a = eK k then _ else _) = _
    by_cases h : a = k
    · subst h; simp [AL.del, encM]
    · rw [if_neg (fun e => h (inj _ _ e))]
      simp only [AL.del, h, if_false]
      show _ :: mdel (encM eK eV r) _ = _ :: encM eK eV (AL.del r k)
      rw [ih]
end
theorem encM_len {κ ν : Type} {eK : κ → List Int} {eV : ν → List DV} (m : List (κ × ν)) : (encM eK eV m).length = m.length := by simp [encM]

section
variable {P : Program} {ctx : Ctx} {Q : PQ} {s : PState}
variable {dst : Option Tmp} {ty : TypeId} {pos : String} {after : Array Edge} {gd : Option (Nat × Bool)}

/-! ### Loops, joins -/
def LoopAt (P : Program) (c : Code) (Q : Exit → Act → World → Prop) (a : Act) (w : World) : Prop := ∀ (b : Frame) (k : List Item) (cs : List Frame),
  ∃ e a' w', Q e a' w' ∧ Arrives P (lone (b.at a (.code c :: .inLoop c :: k)) cs w) b k cs e a' w'
theorem LoopAt.step {c : Code} {Q : Exit → Act → World → Prop} {a : Act} {w : World} (h : c.wp P (Exit.then (LoopAt P c Q) Q) a w) : LoopAt P c Q a w := by
  intro b k cs
  obtain ⟨e, a₁, w₁, hq, harr⟩ := h b (.inLoop c :: k) cs
  cases e with
  | normal =>
    obtain ⟨e₂, a₂, w₂, hq₂, harr₂⟩ := hq b k cs
    exact ⟨e₂, a₂, w₂, hq₂, .of_steps (Steps.trans harr (.one step_inLoop)) harr₂⟩
  | exit id => exact ⟨_, a₁, w₁, hq, .pass (x := .inLoop c) rfl (fun _ _ => .inl (by simp)) harr⟩
  | goto l => exact ⟨_, a₁, w₁, hq, .pass (x := .inLoop c) rfl (fun _ _ => .inl (by simp)) harr⟩
  | ret => exact ⟨_, a₁, w₁, hq, .pass (x := .inLoop c) rfl (fun _ _ => .inl (by simp)) harr⟩
  | panic ch => exact ⟨_, a₁, w₁, hq, .pass (x := .inLoop c) rfl (fun _ _ => .inl (by simp)) harr⟩
  | outgrown => exact ⟨_, a₁, w₁, hq, .pass (x := .inLoop c) rfl (fun _ _ => .inl (by simp)) harr⟩
theorem LoopAt.loop {c : Code} {Q : Exit → Act → World → Prop} {a : Act} {w : World} (h : LoopAt P c Q a w) : (Code.loop c).wp P Q a w := fun b k cs =>
  let ⟨e, a', w', hq, harr⟩ := h b k cs
  ⟨e, a', w', hq, .of_steps (.one step_loop) harr⟩

theorem PWc.loopM {σ ρ G : Type} {c : Code} {body : σ → M (M.Step σ ρ)} {s0 : σ} {R : ρ → Prop} (J : σ → G → PState) (g0 : G) (h : (M.loop body s0).wp R) (hs : Sub ctx s (J s0 g0))
    (round : ∀ (N : σ → Prop) (x : σ) (g : G), (body x).wp (M.Step.post N R) → PWc P ctx c (Then (fun t => ∃ y g', N y ∧ Sub ctx t (J y g')) Q) (J x g)) : PWc P ctx (.loop c) Q s := by
  intro a w hr
  refine LoopAt.loop ?_
  have key : ∀ g a w, Rel ctx (J s0 g) a w → LoopAt P c (lift ctx Q) a w := by
    refine h (fun x => ∀ g a w, Rel ctx (J x g) a w → LoopAt P c (lift ctx Q) a w) fun x hx g a w hr => ?_
    refine LoopAt.step (wp_mono (round _ x g hx a w hr) fun e a' w' ⟨t, h1, h2⟩ => ?_)
    cases e with
    | normal =>
      obtain ⟨y, g', hy, hsub⟩ := h1
      exact hy g' a' w' (hsub a' w' h2)
    | _ => exact ⟨t, h1, h2⟩
  exact key g0 a w (hs a w hr)

/-- Ways that meet again. -/
theorem PWc.joinM {x : Code} {K : PState → Prop} {τ G : Type} (J : τ → G → PState) (N : τ → Prop) (h : PWc P ctx x (Then (fun t => ∃ v g, N v ∧ Sub ctx t (J v g)) Q) s) (k : ∀ t v g, Sub ctx t (J v g) → N v → K t) : PWc P ctx x (Then K Q) s :=
  h.mono fun e t hq => by
    cases e with
    | normal => obtain ⟨v, g, hv, hs⟩ := hq; exact k t v g hs hv
    | _ => exact hq
def Jn (ctx : Ctx) (Q : PQ) {τ G : Type} (J : τ → G → PState) (N : τ → Prop) : PQ
  | .normal, t => ∃ v g, N v ∧ Sub ctx t (J v g)
  | e, t => Q e t
/-- .. at a block's end. -/
theorem PWc.blockM {id : Nat} {c : Code} {τ G : Type} (J : τ → G → PState) (N : τ → Prop) (h : PWc P ctx c (InBlk id (Jn ctx Q J N)) s) (k : ∀ t v g, Sub ctx t (J v g) → N v → Q .normal t) : PWc P ctx (.block id c) Q s :=
  PWc.block (h.mono fun e t hq => by
    cases e with
    | normal => obtain ⟨v, g, hv, hs⟩ := hq; exact k t v g hs hv
    | exit j =>
      simp only [InBlk] at hq ⊢
      split at hq
      · rename_i hj; rw [if_pos hj]; obtain ⟨v, g, hv, hs⟩ := hq; exact k t v g hs hv
      · rename_i hj; rw [if_neg hj]; exact hq
    | _ => exact hq)

/-! ### Operations on typed lists -/
section
variable {α : Type} {enc : α → List DV} {L R : List α}
theorem LR.idxT {x ix : Operand} {ki : IntKind} {i : Int} {k : Nat} {y : α} {t e : TypeId} (hu : P.underlying t = some (.slice e)) (hs : ∀ w, (sizeOf e).run P w = .ok k w)
    (hx : s.ev x = some (.d (.sl (L.map enc)))) (hix : s.ev ix = some (.d (.v (.int ki i)))) (hy : 0 ≤ i ∧ L[i.toNat]? = some y) (hk : ∀ x, (enc x).length = k) :
    Local P ctx ⟨dst, .indexAddr t x ix, ty, pos, after, gd⟩ s (s.putD dst (.ep (enc y) 0)) :=
  LR.idxSl (n := i.toNat) hu hs hx hix (by omega) (by simp [hy.2]) (hk _)
theorem LR.idxRowT {x ix : Operand} {id m : Nat} {ki : IntKind} {i : Int} {k : Nat} {y : α} {t e : TypeId} (hu : P.underlying t = some (.slice e)) (hs : ∀ w, (sizeOf e).run P w = .ok k w)
    (hx : s.ev x = some (.row id m)) (hm : m = L.length) (hix : s.ev ix = some (.d (.v (.int ki i)))) (hy : 0 ≤ i ∧ L[i.toNat]? = some y) :
    Local P ctx ⟨dst, .indexAddr t x ix, ty, pos, after, gd⟩ s (s.putD dst (.rp id i.toNat 0 k)) :=
  LR.idxRow hu hs hx hix (by omega) (by rw [hm]; exact (List.getElem?_eq_some_iff.1 hy.2).1)
theorem LR.loadRpT {x : Operand} {id n k : Nat} {T T0 : TypeId} {y : α} (ha : ∀ w, (isAgg T).run P w = .ok true w) (hs : ∀ w, (sizeOf T).run P w = .ok k w) (hx : s.ev x = some (.rp id n 0 k)) (hl : look s.objs id = some (.row T0 k (L.map enc))) (hy : L[n]? = some y) :
    Local P ctx ⟨dst, .load T x, ty, pos, after, gd⟩ s (s.putD dst (.agg ((enc y).map .d))) := LR.loadRpAgg ha hs hx hl (by simp [hy])
theorem LR.loadRpF {x : Operand} {id n o k : Nat} {T T0 : TypeId} {y : α} {z : DV} (ha : ∀ w, (isAgg T).run P w = .ok false w) (hx : s.ev x = some (.rp id n o k)) (hl : look s.objs id = some (.row T0 k (L.map enc))) (hy : L[n]? = some y) (hz : (enc y)[o]? = some z) :
    Local P ctx ⟨dst, .load T x, ty, pos, after, gd⟩ s (s.putD dst (.d z)) := LR.loadRp ha hx hl (by simp [hy]) hz
theorem LR.storeRpT {x y : Operand} {id n o k m : Nat} {T T0 : TypeId} {a b : α} {ys : List DV} {p : PV} (hs : ∀ w, (sizeOf T).run P w = .ok m w) (hx : s.ev x = some (.rp id n o k)) (hy : s.ev y = some p) (hp : p.dparts = some ys) (hm : ys.length = m)
    (hl : look s.objs id = some (.row T0 k (L.map enc))) (hi : L[n]? = some a) (hlen : Nat.ble (o + m) k = true) (hns : (enc a).take o ++ ys ++ (enc a).drop (o + m) = enc b) :
    Local P ctx ⟨none, .store T x y, ty, pos, after, gd⟩ s (s.setO id (.row T0 k ((L.set n b).map enc))) := by
  have := LR.storeRpB (P := P) (ctx := ctx) (ty := ty) (pos := pos) (after := after) (gd := gd) hs hx hy hp hm hl (by simp [hi]) hlen hns
  rwa [← List.map_set] at this
theorem LR.cutT {x lo hi : Operand} {k : Nat} {t e : TypeId} {k1 k2 : IntKind} {i j : Int} (hu : P.underlying t = some (.slice e)) (hs : ∀ w, (sizeOf e).run P w = .ok k w) (hx : s.ev x = some (.d (.sl (L.map enc)))) (hk : ∀ x, (enc x).length = k)
    (h1 : s.ev lo = some (.d (.v (.int k1 i)))) (h2 : s.ev hi = some (.d (.v (.int k2 j)))) (hb : 0 ≤ i ∧ i ≤ j ∧ j ≤ L.length) :
    Local P ctx ⟨dst, .slice t x (some lo) (some hi) none, ty, pos, after, gd⟩ s (s.putD dst (.d (.sl (((L.take j.toNat).drop i.toNat).map enc)))) := by
  have := LR.sliceLH (P := P) (ctx := ctx) (dst := dst) (ty := ty) (pos := pos) (after := after) (gd := gd) (m := i.toNat) (n := j.toNat) hu hs hx (eachMap hk L) h1 h2 (by omega) (by omega) (by omega) (by simp; omega)
  rwa [← List.map_take, ← List.map_drop] at this
theorem LR.cutLT {x lo : Operand} {k : Nat} {t e : TypeId} {k1 : IntKind} {i : Int} (hu : P.underlying t = some (.slice e)) (hs : ∀ w, (sizeOf e).run P w = .ok k w) (hx : s.ev x = some (.d (.sl (L.map enc)))) (hk : ∀ x, (enc x).length = k)
    (h1 : s.ev lo = some (.d (.v (.int k1 i)))) (hb : 0 ≤ i ∧ i ≤ (L.length : Int) ∧ (L.length : Int) ≤ L.length) :
    Local P ctx ⟨dst, .slice t x (some lo) none none, ty, pos, after, gd⟩ s (s.putD dst (.d (.sl (((L.take (L.length : Int).toNat).drop i.toNat).map enc)))) := by
  have := LR.sliceL (P := P) (ctx := ctx) (dst := dst) (ty := ty) (pos := pos) (after := after) (gd := gd) (m := i.toNat) hu hs hx (eachMap hk L) h1 (by omega) (by simp; omega)
  rw [← List.map_drop] at this
  simpa using this
theorem LR.cutHT {x hi : Operand} {k : Nat} {t e : TypeId} {k2 : IntKind} {j : Int} (hu : P.underlying t = some (.slice e)) (hs : ∀ w, (sizeOf e).run P w = .ok k w) (hx : s.ev x = some (.d (.sl (L.map enc)))) (hk : ∀ x, (enc x).length = k)
    (h2 : s.ev hi = some (.d (.v (.int k2 j)))) (hb : 0 ≤ (0 : Int) ∧ 0 ≤ j ∧ j ≤ L.length) :
    Local P ctx ⟨dst, .slice t x none (some hi) none, ty, pos, after, gd⟩ s (s.putD dst (.d (.sl (((L.take j.toNat).drop (0 : Int).toNat).map enc)))) := by
  have := LR.sliceH (P := P) (ctx := ctx) (dst := dst) (ty := ty) (pos := pos) (after := after) (gd := gd) (n := j.toNat) hu hs hx (eachMap hk L) h2 (by omega) (by simp; omega)
  rw [← List.map_take] at this
  simpa using this
theorem LR.appT {x y : Operand} {id m k bs : Nat} {t t' e e' : TypeId} (js : List Nat) (hE : ElemOK P t e k bs) (hu' : P.underlying t' = some (.slice e')) (hx : s.ev x = some (.row id m)) (hm : m = L.length) (hl : look s.objs id = some (.row e k (L.map enc)))
    (hy : Src ctx s y (R.map enc) k) (hk : ∀ x, (enc x).length = k) (hb : (L.length + R.length) * bs ≤ 140737488355328) (h1 : Nat.ble 1 bs = true) (ha : (s.junks js).alone id = true) :
    Local P ctx ⟨dst, .call ⟨.builtin .append, #[x, y], #[t, t']⟩, ty, pos, after, gd⟩ s (((s.junks js).setO id (.row e k ((L ++ R).map enc))).putD dst (.row id (L ++ R).length)) := by
  subst hm
  have h2 := Nat.le_of_ble_eq_true h1
  have h3 : (L.length + R.length) * 1 ≤ (L.length + R.length) * bs := Nat.mul_le_mul_left _ h2
  have := LR.append (P := P) (ctx := ctx) (dst := dst) (ty := ty) (pos := pos) (after := after) (gd := gd) js hE hu' hx hl (by simp) hy (eachMap hk R) (by simpa using hb) (by simp; omega) ha
  simpa using this
theorem LR.appNilT {id k bs : Nat} {y : Operand} {t t' e e' : TypeId} (hE : ElemOK P t e k bs) (hu' : P.underlying t' = some (.slice e')) (hf : s.fresh id = true)
    (hy : Src ctx { s with objs := putO id (.row e k []) s.objs } y (R.map enc) k) (hk : ∀ x, (enc x).length = k) (hb : R.length * bs ≤ 140737488355328) (h1 : Nat.ble 1 bs = true) (ha : ({ s with objs := putO id (.row e k []) s.objs } : PState).alone id = true) :
    Local P ctx ⟨some id, .call ⟨.builtin .append, #[.const (.slice none 0 0), y], #[t, t']⟩, ty, pos, after, gd⟩ s ((({ s with objs := putO id (.row e k []) s.objs } : PState).setO id (.row e k (R.map enc))).putD (some id) (.row id R.length)) := by
  have h2 := Nat.le_of_ble_eq_true h1
  have h3 : R.length * 1 ≤ R.length * bs := Nat.mul_le_mul_left _ h2
  have := LR.appendNil (P := P) (ctx := ctx) (ty := ty) (pos := pos) (after := after) (gd := gd) hE hu' hf hy (eachMap hk R) (by simpa using hb) (by simp; omega) ha
  simpa using this
theorem Src.slT {y : Operand} {k : Nat} (hy : s.ev y = some (.d (.sl (R.map enc)))) (hk : ∀ x, (enc x).length = k) : Src ctx s y (R.map enc) k := Src.sl hy (eachMap hk R)
theorem Src.rowT {y : Operand} {id m k : Nat} {T : TypeId} (hy : s.ev y = some (.row id m)) (hl : look s.objs id = some (.row T k (R.map enc))) (hm : m = R.length) : Src ctx s y (R.map enc) k := Src.row hy hl (by simpa using hm.symm)
theorem LR.rowT {id : Nat} {x : Operand} {xs : List Operand} {ats : Array TypeId} {f : FuncId} {ps : List PV} {e : TypeId} {k : Nat} (hc : PRow P f ps e k (L.map enc)) (hx : s.ev x = some (.d (.v (.func (.func f) #[] #[])))) (he : ∀ args w, (callFunc f args).run P w = .ok (.enter f args) w)
    (hps : s.evs xs = some ps) (hd : PV.isData.isDataL ps = true) (hf : s.fresh id = true) :
    Local P ctx ⟨some id, .call ⟨.value x, xs.toArray, ats⟩, ty, pos, after, gd⟩ s (s.newO id (.row e k (L.map enc)) (.row id L.length)) := by
  have := LR.callRow (P := P) (ctx := ctx) (ty := ty) (pos := pos) (after := after) (gd := gd) (id := id) (ats := ats) hc hx he hps hd hf
  rwa [List.length_map] at this
end

/-! ### Maps -/
section
variable {κ ν : Type} [DecidableEq κ] {eK : κ → List Int} {eV : ν → List DV} {m : List (κ × ν)} {q : κ} {zv : ν} (inj : ∀ a b, eK a = eK b → a = b)
variable {x kx : Operand} {t kt et : TypeId} {ks : List IntKind} {ag : Bool} {z : Value} {p kp : PV}
theorem getD_map {o : Option ν} : (o.map eV).getD (eV zv) = eV (o.getD zv) := by cases o <;> rfl
section
variable (hu : P.underlying t = some (.map kt et)) (K : KeyOK P kt ks) (hz : ∀ w, (zeroValue et).run P w = .ok z w) (hzr : ∀ (w : World) (g : Ghost) (S : Nat → Prop), Rd w g S (elP ag (eV zv)) z) (hk : s.ev kx = some kp) (hkp : kp = keyP ks (eK q)) (hn : (eK q).length = ks.length) (hp : elP ag (eV (AL.getZ m q zv)) = p)
include inj hu K hz hzr hk hkp hn hp
theorem LR.getO {id : Nat} {bs : List Nat} {ck : Nat} (hx : s.ev x = some (.mp id)) (hl : look s.objs id = some (.map ks ag (encM eK eV m) bs ck)) : Local P ctx ⟨dst, .lookup t x kx false, ty, pos, after, gd⟩ s (s.putD dst p) :=
  LR.lookupO hu K hz hzr (by rw [hk, hkp]) hn (by rw [mget_encM inj, getD_map]; exact hp) hx hl
theorem LR.getD (hx : s.ev x = some (.md ks ag (encM eK eV m))) : Local P ctx ⟨dst, .lookup t x kx false, ty, pos, after, gd⟩ s (s.putD dst p) :=
  LR.lookupD hu K hz hzr (by rw [hk, hkp]) hn (by rw [mget_encM inj, getD_map]; exact hp) hx
theorem LR.getOkO {id : Nat} {bs : List Nat} {ck : Nat} (hx : s.ev x = some (.mp id)) (hl : look s.objs id = some (.map ks ag (encM eK eV m) bs ck)) : Local P ctx ⟨dst, .lookup t x kx true, ty, pos, after, gd⟩ s (s.putD dst (.tup [p, .d (.v (.bool (AL.has m q)))])) := by
  have := LR.lookupOkO (P := P) (ctx := ctx) (dst := dst) (ty := ty) (pos := pos) (after := after) (gd := gd) (p := p) hu K hz hzr (by rw [hk, hkp]) hn (by rw [mget_encM inj, getD_map]; exact hp) hx hl
  rw [mget_encM inj, Option.isSome_map] at this
  exact this
theorem LR.getOkD (hx : s.ev x = some (.md ks ag (encM eK eV m))) : Local P ctx ⟨dst, .lookup t x kx true, ty, pos, after, gd⟩ s (s.putD dst (.tup [p, .d (.v (.bool (AL.has m q)))])) := by
  have := LR.lookupOkD (P := P) (ctx := ctx) (dst := dst) (ty := ty) (pos := pos) (after := after) (gd := gd) (p := p) hu K hz hzr (by rw [hk, hkp]) hn (by rw [mget_encM inj, getD_map]; exact hp) hx
  rw [mget_encM inj, Option.isSome_map] at this
  exact this
end
section
variable {id : Nat} {bs : List Nat} {ck : Nat} {vx : Operand} {v : ν} (hu : P.underlying t = some (.map kt et)) (K : KeyOK P kt ks) (hx : s.ev x = some (.mp id)) (hl : look s.objs id = some (.map ks ag (encM eK eV m) bs ck))
    (hk : s.ev kx = some kp) (hkp : kp = keyP ks (eK q)) (hn : (eK q).length = ks.length)
include inj hu K hx hl hk hkp hn
theorem LR.setM {pv : PV} (hv : s.ev vx = some pv) (hq : elP ag (eV v) = pv) (h1 : ag = false → (eV v).length = 1) :
    Local P ctx ⟨none, .mapUpdate t x kx vx, ty, pos, after, gd⟩ s (s.setO id (.map ks ag (encM eK eV (AL.set m q v)) (bset (encM eK eV m) (eK q) bs ck) (cset (encM eK eV m) (eK q) ck))) := by
  have := LR.mapUpdate (P := P) (ctx := ctx) (ty := ty) (pos := pos) (after := after) (gd := gd) hu K hx hl (by rw [hk, hkp]) hn hv hq h1 rfl rfl
  rwa [mset_encM inj] at this
theorem LR.setIn {pv : PV} (hv : s.ev vx = some pv) (hq : elP ag (eV v) = pv) (h1 : ag = false → (eV v).length = 1) (hin : AL.has m q = true) :
    Local P ctx ⟨none, .mapUpdate t x kx vx, ty, pos, after, gd⟩ s (s.setO id (.map ks ag (encM eK eV (AL.set m q v)) bs ck)) := by
  have := LR.setM (P := P) (ctx := ctx) (ty := ty) (pos := pos) (after := after) (gd := gd) inj hu K hx hl hk hkp hn hv hq h1
  obtain ⟨u, hu'⟩ := Option.isSome_iff_exists.1 hin
  have e : mget (encM eK eV m) (eK q) = some (eV u) := by rw [mget_encM inj, hu']; rfl
  simpa [bset, cset, e] using this
theorem LR.delM {ats : Array TypeId} (hats : ats[0]? = some t) :
    Local P ctx ⟨dst, .call ⟨.builtin .delete, #[x, kx], ats⟩, ty, pos, after, gd⟩ s ((s.setO id (.map ks ag (encM eK eV (AL.del m q)) (bdel (encM eK eV m) (eK q) bs) ck)).putD dst (.tup [])) := by
  have := LR.delete (P := P) (ctx := ctx) (dst := dst) (ty := ty) (pos := pos) (after := after) (gd := gd) hats hu K hx hl (by rw [hk, hkp]) hn rfl
  rwa [mdel_encM inj] at this
end
end
end
end Go.Ep
namespace Go.Ep
/-! ### Arguments: a nil slice is data without elements -/
def PV.nilD : PV → PV
  | .d (.v (.slice none 0 0)) => .d (.sl [])
  | p => p
theorem Rd.nilD {w : World} {g : Ghost} {S : Nat → Prop} {p : PV} {u : Value} (h : Rd w g S p u) : Rd w g S p.nilD u := by
  unfold PV.nilD
  split
  · have := h.of_v; subst this; exact .d (.nil none 0 (Nat.zero_le _) (fun _ => rfl))
  · exact h
def PState.evsN (s : PState) (xs : List Operand) : Option (List PV) := (s.evs xs).map (List.map PV.nilD)
section
variable {P : Program} {ctx : Ctx} {Q : PQ} {s : PState}
variable {dst : Option Tmp} {ty : TypeId} {pos : String} {after : Array Edge} {gd : Option (Nat × Bool)}
theorem PV.isData_nilD {p : PV} (h : p.nilD.isData = true) : p.isData = true := by
  unfold PV.nilD at h
  split at h
  · rfl
  · exact h
theorem isDataL_nilD : ∀ {ps : List PV}, PV.isData.isDataL (ps.map PV.nilD) = true → PV.isData.isDataL ps = true
  | [], _ => rfl
  | p :: r, h => by
    simp only [List.map_cons, PV.isData.isDataL, Bool.and_eq_true] at h ⊢
    exact ⟨PV.isData_nilD h.1, isDataL_nilD h.2⟩
theorem PFun.nilD {f : FuncId} {ps : List PV} {r : PV} (h : PFun P f (ps.map PV.nilD) r) : PFun P f ps r := fun w S vs hl hv =>
  h w S vs (by simpa using hl) fun i p v hp hu => by
    rw [List.getElem?_map] at hp
    cases hq : ps[i]? with
    | none => simp [hq] at hp
    | some q => simp [hq] at hp; subst hp; exact (hv i q v hq hu).nilD
theorem PRow.nilD {f : FuncId} {ps : List PV} {e : TypeId} {k : Nat} {l : List (List DV)} (h : PRow P f (ps.map PV.nilD) e k l) : PRow P f ps e k l := fun w S vs hl hv =>
  h w S vs (by simpa using hl) fun i p v hp hu => by
    rw [List.getElem?_map] at hp
    cases hq : ps[i]? with
    | none => simp [hq] at hp
    | some q => simp [hq] at hp; subst hp; exact (hv i q v hq hu).nilD
theorem PMap.nilD {f : FuncId} {ps : List PV} {ks : List IntKind} {ag : Bool} {m : Mp} (h : PMap P f (ps.map PV.nilD) ks ag m) : PMap P f ps ks ag m := fun w S vs hl hv =>
  h w S vs (by simpa using hl) fun i p v hp hu => by
    rw [List.getElem?_map] at hp
    cases hq : ps[i]? with
    | none => simp [hq] at hp
    | some q => simp [hq] at hp; subst hp; exact (hv i q v hq hu).nilD
theorem LR.callN {x : Operand} {xs : List Operand} {ats : Array TypeId} {f : FuncId} {ps qs : List PV} {r : PV} (hc : PFun P f ps r) (hx : s.ev x = some (.d (.v (.func (.func f) #[] #[])))) (he : ∀ args w, (callFunc f args).run P w = .ok (.enter f args) w)
    (hps : s.evs xs = some qs) (hq : qs.map PV.nilD = ps) (hd : PV.isData.isDataL ps = true) (hr : r.isData = true) :
    Local P ctx ⟨dst, .call ⟨.value x, xs.toArray, ats⟩, ty, pos, after, gd⟩ s (s.putD dst r) := by
  subst hq
  exact LR.call hc.nilD hx he hps (isDataL_nilD hd) hr
theorem LR.rowN {α : Type} {enc : α → List DV} {L : List α} {id : Nat} {x : Operand} {xs : List Operand} {ats : Array TypeId} {f : FuncId} {ps qs : List PV} {e : TypeId} {k : Nat} (hc : PRow P f ps e k (L.map enc)) (hx : s.ev x = some (.d (.v (.func (.func f) #[] #[])))) (he : ∀ args w, (callFunc f args).run P w = .ok (.enter f args) w)
    (hps : s.evs xs = some qs) (hq : qs.map PV.nilD = ps) (hd : PV.isData.isDataL ps = true) (hf : s.fresh id = true) :
    Local P ctx ⟨some id, .call ⟨.value x, xs.toArray, ats⟩, ty, pos, after, gd⟩ s (s.newO id (.row e k (L.map enc)) (.row id L.length)) := by
  subst hq
  exact LR.rowT hc.nilD hx he hps (isDataL_nilD hd) hf
theorem PWl.mapN {ops : Array Oper} {rest : List Oper} {id : Nat} {x : Operand} {xs : List Operand} {ats : Array TypeId} {f : FuncId} {ps qs : List PV} {ks : List IntKind} {ag : Bool} {m : Mp} (hc : PMap P f ps ks ag m) (hx : s.ev x = some (.d (.v (.func (.func f) #[] #[])))) (he : ∀ args w, (callFunc f args).run P w = .ok (.enter f args) w)
    (hps : s.evs xs = some qs) (hq : qs.map PV.nilD = ps) (hd : PV.isData.isDataL ps = true) (hf : s.fresh id = true) (hgd : gd = none)
    (h : ∀ bs ck, bs.length = m.length → PWl P ctx ops Q rest (s.newO id (.map ks ag m bs ck) (.mp id))) : PWl P ctx ops Q (⟨some id, .call ⟨.value x, xs.toArray, ats⟩, ty, pos, after, gd⟩ :: rest) s := by
  subst hq
  exact PWl.callMap hc.nilD hx he hps (isDataL_nilD hd) hf hgd h
end
end Go.Ep
namespace Go.Ep
/-! ### Encoders -/
def eK (k : IntKind) (n : Int) : List DV := [.v (.int k n)]
def eBo (b : Bool) : List DV := [.v (.bool b)]
def eS (s : ByteArray) : List DV := [.v (.string s)]
def eL {α : Type} (enc : α → List DV) (l : List α) : List DV := [.sl (l.map enc)]
def eP {α : Type} (enc : α → List DV) (p : α × α) : List DV := enc p.1 ++ enc p.2
def kI (n : Int) : List Int := [n]
theorem kI_inj (a b : Int) (h : kI a = kI b) : a = b := by simpa [kI] using h
def kP (p : Int × Int) : List Int := [p.1, p.2]
theorem kP_inj (a b : Int × Int) (h : kP a = kP b) : a = b := by
  obtain ⟨a1, a2⟩ := a; obtain ⟨b1, b2⟩ := b; simp [kP] at h; simp [h]
section
variable {P : Program} {ctx : Ctx} {Q : PQ} {s : PState}
variable {dst : Option Tmp} {ty : TypeId} {pos : String} {after : Array Edge} {gd : Option (Nat × Bool)}

/-- Ways that meet again. -/
theorem PWc.jn {c : Code} {τ G : Type} {m : M τ} {N : τ → Prop} (h : m.wp N) (J : τ → G → PState) (i : m.wp N → PWc P ctx c (Jn ctx Q J N) s) (k : ∀ v g, N v → Q .normal (J v g))
    (hK : ∀ t u, Sub ctx t u → Q .normal u → Q .normal t := by first | exact fun _ _ hs h => PWc.sub hs h | exact fun _ _ hs ⟨v, g, h1, h2⟩ => ⟨v, g, h1, Sub.trans hs h2⟩) : PWc P ctx c Q s :=
  (i h).mono fun e t hq => by
    cases e with
    | normal => obtain ⟨v, g, hv, hs⟩ := hq; exact hK t _ hs (k v g hv)
    | _ => exact hq
theorem PWc.jnX {c : Code} {τ G α : Type} {m : M (M.Ex τ α)} {N : M.Ex τ α → Prop} (h : m.wp N) (J : τ → G → PState) (i : m.wp N → PWc P ctx c (Jn ctx Q J fun v => N (.brk v)) s) (k : ∀ v g, N (.brk v) → Q .normal (J v g))
    (hK : ∀ t u, Sub ctx t u → Q .normal u → Q .normal t := by first | exact fun _ _ hs h => PWc.sub hs h | exact fun _ _ hs ⟨v, g, h1, h2⟩ => ⟨v, g, h1, Sub.trans hs h2⟩) : PWc P ctx c Q s :=
  (i h).mono fun e t hq => by
    cases e with
    | normal => obtain ⟨v, g, hv, hs⟩ := hq; exact hK t _ hs (k v g hv)
    | _ => exact hq

/-! ### Small things -/
theorem LR.lenTO {κ ν : Type} {eK : κ → List Int} {eV : ν → List DV} {m : List (κ × ν)} {x : Operand} {t kt et : TypeId} {id : Nat} {ks : List IntKind} {ag : Bool} {bs : List Nat} {ck : Nat} (hu : P.underlying t = some (.map kt et)) (hx : s.ev x = some (.mp id)) (hl : look s.objs id = some (.map ks ag (encM eK eV m) bs ck)) :
    Local P ctx ⟨dst, .call ⟨.builtin .len, #[x], #[t]⟩, ty, pos, after, gd⟩ s (s.putD dst (.d (.v (.int .i64 m.length)))) := by
  have := LR.lenMapO (P := P) (ctx := ctx) (dst := dst) (ty := ty) (pos := pos) (after := after) (gd := gd) hu hx hl
  rwa [encM_len] at this
theorem LR.lenTD {κ ν : Type} {eK : κ → List Int} {eV : ν → List DV} {m : List (κ × ν)} {x : Operand} {t kt et : TypeId} {ks : List IntKind} {ag : Bool} (hu : P.underlying t = some (.map kt et)) (hx : s.ev x = some (.md ks ag (encM eK eV m))) :
    Local P ctx ⟨dst, .call ⟨.builtin .len, #[x], #[t]⟩, ty, pos, after, gd⟩ s (s.putD dst (.d (.v (.int .i64 m.length)))) := by
  have := LR.lenMapD (P := P) (ctx := ctx) (dst := dst) (ty := ty) (pos := pos) (after := after) (gd := gd) hu hx
  rwa [encM_len] at this
theorem entGet {κ ν : Type} {eK : κ → List Int} {eV : ν → List DV} {m : List (κ × ν)} {i : Nat} {y : κ × ν} (h : 0 ≤ Int.ofNat i ∧ m[(Int.ofNat i).toNat]? = some y) : (encM eK eV m)[i]? = some (eK y.1, eV y.2) := by
  have h2 : m[i]? = some y := h.2
  simp [encM, h2]
section
variable {κ ν : Type} {eK : κ → List Int} {eV : ν → List DV} {m : List (κ × ν)}
theorem nxtA {L : List Nat} (h : ∀ i, i < (encM eK eV m).length → i ∈ L) : ∀ i, i < m.length → i ∈ L := fun i hi => h i (by rw [encM_len]; exact hi)
theorem nxtB {i : Nat} (h : i < (encM eK eV m).length) : i < m.length := by rwa [encM_len] at h
theorem nxtD {L : List Nat} (h : ∀ i ∈ L, i < m.length) : ∀ i ∈ L, i < (encM eK eV m).length := fun i hi => by rw [encM_len]; exact h i hi
end
theorem Src.nilT {α : Type} {enc : α → List DV} {y : Operand} {k : Nat} (hy : s.ev y = some (.d (.v (.slice none 0 0)))) : Src ctx s y (([] : List α).map enc) k := by
  intro a w g hg
  have hv : a.eval y = .slice none 0 0 := (hg.ev hy).of_v
  exact ⟨none, 0, [], hv, by simp, by simp, by simp, by simp, by simp⟩
theorem PWl.makeT {α : Type} {enc : α → List DV} {z : α} {ops : Array Oper} {rest : List Oper} {id k bs : Nat} {t e : TypeId} {x y : Operand} {kl kc : IntKind} {L : Int} {zv : Value} {zs : List Value} (hb : 0 ≤ L ∧ L * bs ≤ 140737488355328) (hE : ElemOK P t e k bs) (hzv : ∀ w, (zeroValue e).run P w = .ok zv w) (hzc : zv.cells = zs.toArray) (h1 : (zs.all Value.oneCell') = true)
    (hz : enc z = zs.map zdv) (hx : s.ev x = some (.d (.v (.int kl L)))) (hy : s.ev y = some (.d (.v (.int kc L)))) (hf : s.fresh id = true) (hgd : gd = none) (hbs : Nat.ble 1 bs = true)
    (h : PWl P ctx ops Q rest (s.newO id (.row e k (List.map enc (List.replicate L.toNat z))) (.row id L.toNat))) : PWl P ctx ops Q (⟨some id, .makeSlice t x y, ty, pos, after, gd⟩ :: rest) s := by
  obtain ⟨h0, h2⟩ := hb
  have h3 : bs * L.toNat ≤ 140737488355328 := by
    have : ((bs * L.toNat : Nat) : Int) ≤ 140737488355328 := by
      rw [Int.natCast_mul, Int.toNat_of_nonneg h0, Int.mul_comm]; exact h2
    omega
  have h4 : L.toNat ≤ bs * L.toNat := by
    have := Nat.mul_le_mul_right L.toNat (Nat.le_of_ble_eq_true hbs)
    omega
  have hr := LR.makeN (P := P) (ctx := ctx) (s := s) (ty := ty) (pos := pos) (after := after) (gd := gd) (id := id) (n := L.toNat) hE hzv hzc h1 hx hy (by omega) (by omega) (by omega) (by omega) hf
  rw [← hz, ← List.map_replicate] at hr
  exact PWl.step hr hgd h
end
end Go.Ep
namespace Go.Ep
abbrev pI (n : Int) : PV := .d (.v (.int .i64 n))
section
variable {P : Program} {ctx : Ctx} {Q : PQ} {s : PState}
variable {dst : Option Tmp} {ty : TypeId} {pos : String} {after : Array Edge} {gd : Option (Nat × Bool)}
/-! ### Bits -/
section
variable {x y : Operand} {k ky : IntKind} {m n r : Int} {t t' : TypeId} (hx : s.ev x = some (.d (.v (.int k m)))) (hy : s.ev y = some (.d (.v (.int ky n))))
include hx hy
theorem LR.shr (h0 : 0 ≤ n) (hr : m.fdiv (2 ^ min n.toNat k.bits) = r) : Local P ctx ⟨dst, .binOp .shr t x y t', ty, pos, after, gd⟩ s (s.putD dst (.d (.v (.int k r)))) := by
  subst hr
  have hn : ¬ n < 0 := by omega
  exact local_pure (o := ⟨dst, .binOp .shr t x y t', ty, pos, after, gd⟩) fun a w _ hg => ⟨_, by simp [execOp, ev_int hg hx, ev_int hg hy, eqGuard_shr, binOp_shr, Op.shift, hn], .d (.v _ rfl)⟩
theorem LR.shl (h0 : 0 ≤ n) (hr : k.wrap (m * 2 ^ min n.toNat k.bits) = r) : Local P ctx ⟨dst, .binOp .shl t x y t', ty, pos, after, gd⟩ s (s.putD dst (.d (.v (.int k r)))) := by
  subst hr
  have hn : ¬ n < 0 := by omega
  exact local_pure (o := ⟨dst, .binOp .shl t x y t', ty, pos, after, gd⟩) fun a w _ hg => ⟨_, by simp [execOp, ev_int hg hx, ev_int hg hy, eqGuard_shl, binOp_shl, Op.shift, hn], .d (.v _ rfl)⟩
end
section
variable {x y : Operand} {k : IntKind} {m n : Int} {t t' : TypeId} (hx : s.ev x = some (.d (.v (.int k m)))) (hy : s.ev y = some (.d (.v (.int k n))))
include hx hy
theorem LR.and : Local P ctx ⟨dst, .binOp .and t x y t', ty, pos, after, gd⟩ s (s.putD dst (.d (.v (.int k (Go.bits .and k m n))))) := local_bin hx hy (fun w => by simp [binOp_and, intBits_and]) rfl
theorem LR.or : Local P ctx ⟨dst, .binOp .or t x y t', ty, pos, after, gd⟩ s (s.putD dst (.d (.v (.int k (Go.bits .or k m n))))) := local_bin hx hy (fun w => by simp [binOp_or, intBits_or]) rfl
theorem LR.xor : Local P ctx ⟨dst, .binOp .xor t x y t', ty, pos, after, gd⟩ s (s.putD dst (.d (.v (.int k (Go.bits .xor k m n))))) := local_bin hx hy (fun w => by simp [binOp_xor, intBits_xor]) rfl
end
end
end Go.Ep
namespace Go.Ep
theorem PWl.eqlNilT {P : Program} {ctx : Ctx} {Q : PQ} {s : PState} {dst : Option Tmp} {ty : TypeId} {pos : String} {after : Array Edge} {gd : Option (Nat × Bool)} {α : Type} {enc : α → List DV} {L : List α} {ops : Array Oper} {rest : List Oper} {x : Operand} {t t' e : TypeId} (hu : P.underlying t = some (.slice e)) (hx : s.ev x = some (.d (.sl (L.map enc)))) (hg : gd = none)
    (h : ∀ b : Bool, (b = true → L = []) → PWl P ctx ops Q rest (s.putD dst (.d (.v (.bool b))))) : PWl P ctx ops Q (⟨dst, .binOp .eql t x (.const (.slice none 0 0)) t', ty, pos, after, gd⟩ :: rest) s :=
  PWl.eqlNil hu hx hg fun b hb => h b fun e => by simpa using hb e
end Go.Ep
namespace Go.Ep
section
variable {P : Program} {ctx : Ctx} {Q : PQ} {s : PState}
variable {dst : Option Tmp} {ty : TypeId} {pos : String} {after : Array Edge} {gd : Option (Nat × Bool)}
theorem LR.appMakeT {α : Type} {enc : α → List DV} {z : α} {id k bs : Nat} {t ti e : TypeId} {x y : Operand} {zv : Value} {zs : List Value} {n : Int} (hb : 0 < n ∧ n * bs ≤ 140737488355328) (hE : ElemOK P t e k bs) (hti : P.underlying ti = some (.int .i64)) (hzv : ∀ w, (zeroValue e).run P w = .ok zv w) (hzc : zv.cells = zs.toArray) (h1 : (zs.all Value.oneCell') = true)
    (hz : enc z = zs.map zdv) (hx : s.ev x = some (.d (.v (.slice none 0 0)))) (hy : s.ev y = some (.d (.v (.int .i64 n)))) (hf : s.fresh id = true) (hbs : Nat.ble 1 bs = true) :
    Local P ctx ⟨some id, .call ⟨.builtin .append, #[x, y], #[t, ti]⟩, ty, pos, after, gd⟩ s (s.newO id (.row e k (List.map enc (List.replicate n.toNat z))) (.row id n.toNat)) := by
  obtain ⟨h0, h2⟩ := hb
  obtain ⟨m, rfl⟩ := Int.eq_ofNat_of_zero_le (Int.le_of_lt h0)
  have h3 : m * bs ≤ 140737488355328 := by
    have : ((m * bs : Nat) : Int) ≤ 140737488355328 := by rw [Int.natCast_mul]; exact h2
    omega
  have h4 : m ≤ m * bs := by
    have := Nat.mul_le_mul_left m (Nat.le_of_ble_eq_true hbs)
    omega
  have hr := LR.appendMake (P := P) (ctx := ctx) (s := s) (ty := ty) (pos := pos) (after := after) (gd := gd) (id := id) (n := m) hE hti hzv hzc h1 hx hy (by omega) h3 (by omega) hf
  rw [← hz, ← List.map_replicate] at hr
  exact hr
theorem LR.cutRowT {α : Type} {enc : α → List DV} {L : List α} {x hi : Operand} {id m k : Nat} {t e : TypeId} {kx : IntKind} {j : Int} (js : List Nat) (hu : P.underlying t = some (.slice e)) (hs : ∀ w, (sizeOf e).run P w = .ok k w) (hx : s.ev x = some (.row id m)) (hm : m = L.length) (hl : look s.objs id = some (.row e k (L.map enc)))
    (hh : s.ev hi = some (.d (.v (.int kx j)))) (hb : 0 ≤ (0 : Int) ∧ 0 ≤ j ∧ j ≤ (L.length : Int)) (ha : (s.junks js).alone id = true) :
    Local P ctx ⟨dst, .slice t x none (some hi) none, ty, pos, after, gd⟩ s (((s.junks js).setO id (.row e k (List.map enc (L.take j.toNat)))).putD dst (.row id j.toNat)) := by
  have := LR.cutRow (P := P) (ctx := ctx) (dst := dst) (ty := ty) (pos := pos) (after := after) (gd := gd) (m := j.toNat) js hu hs hx hl (by simp [hm]) hh (by omega) (by omega) ha
  rwa [← List.map_take] at this
end
end Go.Ep
namespace Go.Ep
/-- A nil slice, taken as a row of one's own. -/
theorem Sub.nilRow {ctx : Ctx} {s : PState} (t id e k : Nat) (hs : s.at t = some (.d (.v (.slice none 0 0)))) (hf : s.fresh id = true) : Sub ctx s { n := s.n, sl := (t, .row id 0) :: s.sl, objs := putO id (.row e k []) s.objs } := by
  rintro a w ⟨g, hg⟩
  have hn := hg.new (Go.RowKit.Below.refl _ w) hf none (fun b n e => by cases e) (.row e k []) (.rowNil e k (upd_same _ _ _))
  refine ⟨_, ⟨hn.defers, hn.size, ?_, hn.objs, hn.inj, hn.own, hn.os, hn.tape, hn.output, hn.grows, hn.keep⟩⟩
  intro i p hp
  rcases put_at { s with objs := putO id (.row e k []) s.objs } t (.row id 0) i p hp with ⟨rfl, rfl⟩ | ⟨_, h2⟩
  · have hv := (hg.slots t _ hs).of_v
    rw [hv]
    exact .rowNil id (upd_same _ _ _)
  · exact hn.slots i p h2
end Go.Ep
namespace Go.Ep
section
variable {P : Program} {ctx : Ctx} {ops : Array Oper} {Q : PState → Prop}
theorem putD_sub {s t : PState} (hn : s.n = t.n) (h : ∀ i p, t.at i = some p → s.at i = some p) (d : Option Nat) (q : PV) : ∀ i p, (t.putD d q).at i = some p → (s.putD d q).at i = some p := by
  cases d with
  | none => exact h
  | some d =>
    intro i p hp
    simp only [PState.putD, put_at_eq] at hp ⊢
    by_cases h1 : i < t.n
    · rw [if_pos h1] at hp; rw [if_pos (by omega)]
      by_cases h2 : d = i
      · rw [if_pos h2] at hp ⊢; exact hp
      · rw [if_neg h2] at hp ⊢; exact h i p hp
    · rw [if_neg h1] at hp; cases hp
theorem ev_sub {s t : PState} (h : ∀ i p, t.at i = some p → s.at i = some p) {x : Operand} {q : PV} (hx : t.ev x = some q) : s.ev x = some q := by
  cases x with
  | tmp i => exact h i q hx
  | const v => cases v <;> exact hx
  | func f => exact hx
  | global g => exact hx
theorem PQl.forget {l : List Oper} {t : PState} (h : PQl P ctx ops Q l t) : ∀ {s : PState}, s.n = t.n → (∀ i p, t.at i = some p → s.at i = some p) → s.objs = t.objs → PQl P ctx ops Q l s := by
  induction h with
  | fin h hs => intro s hn hi ho; exact .fin h (Sub.trans (Sub.drop hn hi (fun id o hl => by rw [ho]; exact hl)) hs)
  | step hl hg _ ih => intro s hn hi ho; exact .step (fun s' h1 h2 => hl s' (fun hx hq => h1 hx (ev_sub hi hq)) (fun hob => h2 (by rw [ho]; exact hob))) hg (ih (by simp [putD_len, hn]) (putD_sub hn hi _ _) (by simp [putD_objs, ho]))
  | guardT hl hg hd hs _ ih => intro s hn hi ho; exact .guardT (fun s' h1 h2 => hl s' (fun hx hq => h1 hx (ev_sub hi hq)) (fun hob => h2 (by rw [ho]; exact hob))) hg hd (hi _ _ hs) (ih (by simp [putD_len, hn]) (putD_sub hn hi _ _) (by simp [putD_objs, ho]))
  | guardF hg hd hs hbc _ ih => intro s hn hi ho; exact .guardF hg hd (hi _ _ hs) hbc (ih (by simp [putD_len, hn]) (putD_sub hn hi _ _) (by simp [putD_objs, ho]))
  | guardU hg hd hs _ ih => intro s hn hi ho; exact .guardU hg hd (hi _ _ hs) (ih (by simp [putD_len, hn]) (putD_sub hn hi _ _) (by simp [putD_objs, ho]))
theorem PQl.keep {l : List Oper} {s : PState} {n : Nat} {tl : List (Nat × PV)} (hn : s.n = n) (h : Fgt s tl) (k : PQl P ctx ops Q l ⟨n, tl, s.objs⟩) : PQl P ctx ops Q l s :=
  k.forget (t := ⟨n, tl, s.objs⟩) hn (fun i p hp => h.get i p (at_get hp)) rfl
end
end Go.Ep
namespace Go.Ep
section
variable {P : Program} {ctx : Ctx}
theorem PWl.re {Q : PQ} {ops : Array Oper} {l : List Oper} {s : PState} {n : Nat} {tl : List (Nat × PV)} {to : List (Nat × Ob)} (hn : s.n = n) (h : Fgt s tl) (ho : OFgt s.objs to) (k : PWl P ctx ops Q l ⟨n, tl, to⟩) : PWl P ctx ops Q l s := PWl.sub (Sub.of hn h ho) k
end
end Go.Ep
