/- Maps whose values are rows of one's own: all entries are known by what they are, but one, which is one's own. No program in sight. -/
import Derived.Test.YtacnidaafcfgiaaGreatDr
namespace Go.Ep
open Go.RowKit
/-- The keys alone. -/
def keysP (m : List (List Int × Value)) : Mp := m.map fun x => (x.1, [])
theorem keysP_get {m : List (List Int × Value)} {i : Nat} {ns : List Int} {c : List DV} (h : (keysP m)[i]? = some (ns, c)) : ∃ p, m[i]? = some (ns, p) := by
  unfold keysP at h
  rw [List.getElem?_map] at h
  cases hm : m[i]? with
  | none => rw [hm] at h; cases h
  | some x => rw [hm] at h; simp only [Option.map_some, Option.some.injEq, Prod.mk.injEq] at h; exact ⟨x.2, by rw [← h.1]⟩

section
variable {P : Program} {ctx : Ctx} {Q : PQ} {s : PState}
variable {dst : Option Tmp} {ty : TypeId} {pos : String} {after : Array Edge} {gd : Option (Nat × Bool)}

/-- An object is taken for another one that reads what lies there. -/
theorem RelG.reread {g : Ghost} {a : Act} {w : World} (h1 : RelG ctx g s a w) {id : Nat} {o0 ob : Ob} (hl : look s.objs id = some o0) {objs' : List (Nat × Ob)} (ho' : ∀ i, look objs' i = if i = id then some ob else look s.objs i)
    (hr : ∀ S, ObRd w g S id o0 → ObRd w g S id ob) : RelG ctx g { s with objs := objs' } a w := by
  have hF : ∀ b, Free ctx g s.objs b → Free ctx g objs' b := fun b hb => ⟨hb.1, fun i o n ho hgi => by
    rw [ho'] at ho
    by_cases ei : i = id
    · subst ei; exact hb.2 i _ n hl hgi
    · rw [if_neg ei] at ho; exact hb.2 i o n ho hgi⟩
  have hst : Stays w w (Free ctx g s.objs) := ⟨Nat.le_refl _, fun _ _ _ => rfl⟩
  refine ⟨h1.defers, h1.size, fun i p hp => (h1.slots i p hp).keep hst (fun b hb _ => hF b hb) (fun _ _ => rfl), fun i o ho => ?_, fun i i2 o o2 b n m ho ho2 hgi hgi2 => ?_, fun i o b n ho hgi => ?_, h1.os, h1.tape, h1.output, h1.grows, h1.keep⟩
  · simp only [ho'] at ho
    by_cases ei : i = id
    · subst ei
      rw [if_pos rfl] at ho
      cases ho
      exact hr _ ((h1.objs i _ hl).keep hst (fun b hb _ => hF b hb) (fun _ _ _ => rfl) rfl (fun _ _ => rfl))
    · rw [if_neg ei] at ho
      exact (h1.objs i o ho).keep hst (fun b hb _ => hF b hb) (fun _ _ _ => rfl) rfl (fun _ _ => rfl)
  · simp only [ho'] at ho ho2
    have key : ∀ q o, (if q = id then some ob else look s.objs q) = some o → ∃ o', look s.objs q = some o' := fun q o hq => by
      by_cases eq : q = id
      · subst eq; exact ⟨_, hl⟩
      · rw [if_neg eq] at hq; exact ⟨o, hq⟩
    obtain ⟨p1, q1⟩ := key i o ho
    obtain ⟨p2, q2⟩ := key i2 o2 ho2
    exact h1.inj i i2 p1 p2 b n m q1 q2 hgi hgi2
  · simp only [ho'] at ho
    by_cases ei : i = id
    · subst ei; exact h1.own i _ b n hl hgi
    · rw [if_neg ei] at ho; exact h1.own i o b n ho hgi
theorem look_putdel (id : Nat) (ob : Ob) (l : List (Nat × Ob)) (i : Nat) : look (putO id ob (delO id l)) i = if i = id then some ob else look l i := by
  rw [look_putO, look_delO]
  by_cases h : i = id <;> simp [h]
theorem delO_mem {id : Nat} : ∀ {l : List (Nat × Ob)} {x : Nat × Ob}, x ∈ delO id l → x.1 ≠ id ∧ x ∈ l
  | [], x, h => by simp [delO] at h
  | (k, p) :: r, x, h => by
    unfold delO at h
    by_cases e : id = k
    · rw [if_pos e] at h; have := delO_mem h; exact ⟨this.1, List.mem_cons_of_mem _ this.2⟩
    · rw [if_neg e] at h
      rcases List.mem_cons.1 h with h | h
      · subst h; exact ⟨Ne.symm e, List.mem_cons_self⟩
      · have := delO_mem h; exact ⟨this.1, List.mem_cons_of_mem _ this.2⟩
/-- The entry that is one's own is forgotten. -/
theorem ObRd.junkP {w : World} {g : Ghost} {S : Nat → Prop} {id : Nat} {ks : List IntKind} {m : List (List Int × Value)} {j : Nat} {p : PV} {bs : List Nat} {ck : Nat} (h : ObRd w g S id (.mapP ks m (some (j, p)) bs ck)) : ObRd w g S id (.mapP ks m (some (j, .junk)) bs ck) := by
  cases h with
  | mapP _ _ _ _ _ blk n es h hh hsz hst hbl hnd hent hov =>
    refine .mapP ks m _ bs ck blk n es h hh hsz hst hbl hnd (fun i ns u hi => ?_) fun j' p' hj => ?_
    · obtain ⟨e, h1, h2, h3, h4, h5⟩ := hent i ns u hi
      refine ⟨e, h1, h2, h3, h4, fun hne => h5 fun q hq => ?_⟩
      cases hq
      exact hne .junk rfl
    · cases hj
      obtain ⟨e, h1, h2⟩ := hov j p rfl
      exact ⟨e, h1, .junk _⟩
section
variable {x kx : Operand} {t kt et : TypeId} {ks : List IntKind} {m : List (List Int × Value)} {ns : List Int} {bs : List Nat} {ck id : Nat} {ov : Option (Nat × PV)}
theorem mapP_keys {es : Array MapEntry}
    (hent : ∀ (i : Nat) (ns : List Int) (u : Value), m[i]? = some (ns, u) → ∃ e, es[i]? = some e ∧ e.key = keyV ks ns ∧ ns.length = ks.length ∧ e.val.oneCell' = true ∧ ((∀ p, ov ≠ some (i, p)) → e.val = u)) :
    ∀ (i : Nat) (e : MapEntry) (nn : List Int) (c : List DV), es.toList[i]? = some e → (keysP m)[i]? = some (nn, c) → e.key = keyV ks nn ∧ nn.length = ks.length := fun i e nn c h1 h2 => by
  obtain ⟨q, hq⟩ := keysP_get h2
  obtain ⟨e', g1, g2, g3, _⟩ := hent i nn q hq
  have : e' = e := by simp at h1; rw [g1] at h1; cases h1; rfl
  subst this
  exact ⟨g2, g3⟩
variable (hu : P.underlying t = some (.map kt et)) (K : KeyOK P kt ks) (hx : s.ev x = some (.mp id)) (hl : look s.objs id = some (.mapP ks m ov bs ck)) (hk : s.ev kx = some (keyP ks ns)) (hn : ns.length = ks.length)
include hu K hx hl hk hn
theorem LR.lookupP {j : Nat} {p : PV} (hj : pfind ns (keysP m) 0 = some j) (hp : ov = some (j, p)) : Local P ctx ⟨dst, .lookup t x kx false, ty, pos, after, gd⟩ s (s.putD dst p) :=
  local_pure (o := ⟨dst, .lookup t x kx false, ty, pos, after, gd⟩) fun a w g hg => by
    have h := hg.ev hx
    generalize hv : a.eval x = v at h
    cases h with
    | mp _ blk n hgi =>
      cases hg.objs id _ hl with
      | mapP _ _ _ _ _ blk' n' es h' hh hsz hst hbl hnd hent hov =>
        rw [hgi] at h'; cases h'
        have hf := K.find w ns (keysP m) es.toList hn (by simpa [keysP] using hsz) (mapP_keys hent)
        obtain ⟨e, g1, g5⟩ := hov j p hp
        have he : es.toList[j]? = some e := by simpa using g1
        rw [hj] at hf
        simp only [Option.bind_some, he, Option.map_some] at hf
        refine ⟨e.val, ?_, g5⟩
        simp only [execOp, hv, keyP_eq (hg.ev hk), Instr.lookup, Sem.run_bind, run_underlying hu, Result.andThen_ok, MapKept.run_getObj_map hh, Sem.run_pure, K.check w _ ns hn, hf]
        rfl
theorem LR.lookupPN {z : Value} (hz : ∀ w, (zeroValue et).run P w = .ok z w) (h1 : z.oneCell' = true) (hj : pfind ns (keysP m) 0 = none) : Local P ctx ⟨dst, .lookup t x kx false, ty, pos, after, gd⟩ s (s.putD dst (.d (.v z))) :=
  local_pure (o := ⟨dst, .lookup t x kx false, ty, pos, after, gd⟩) fun a w g hg => by
    have h := hg.ev hx
    generalize hv : a.eval x = v at h
    cases h with
    | mp _ blk n hgi =>
      cases hg.objs id _ hl with
      | mapP _ _ _ _ _ blk' n' es h' hh hsz hst hbl hnd hent hov =>
        rw [hgi] at h'; cases h'
        have hf := K.find w ns (keysP m) es.toList hn (by simpa [keysP] using hsz) (mapP_keys hent)
        rw [hj] at hf
        simp only [Option.bind_none] at hf
        refine ⟨z, ?_, .d (.v z h1)⟩
        simp only [execOp, hv, keyP_eq (hg.ev hk), Instr.lookup, Sem.run_bind, run_underlying hu, Result.andThen_ok, MapKept.run_getObj_map hh, Sem.run_pure, K.check w _ ns hn, hf, hz]
        rfl
omit hu K hx hl hk hn in
theorem row_one {w : World} {g : Ghost} {S : Nat → Prop} {q n : Nat} {u : Value} (h : Rd w g S (.row q n) u) : u.oneCell' = true := by cases h <;> rfl
theorem LR.mapUpdateP {vx : Operand} {j q nn : Nat} {p : PV} (hov : ov = some (j, p)) (hv : s.ev vx = some (.row q nn)) (hj : pfind ns (keysP m) 0 = some j) : Local P ctx ⟨none, .mapUpdate t x kx vx, ty, pos, after, gd⟩ s (s.setO id (.mapP ks m (some (j, .row q nn)) bs ck)) := by
  subst hov
  refine local_skip (o := ⟨none, .mapUpdate t x kx vx, ty, pos, after, gd⟩) fun a w g hg => ?_
  have h := hg.ev hx
  generalize hxv : a.eval x = v at h
  cases h with
  | mp _ blk n hgi =>
    cases hg.objs id _ hl with
    | mapP _ _ _ _ _ blk' n' es h' hh hsz hst hbl hnd hent hov =>
      rw [hgi] at h'; cases h'
      have hf := K.find w ns (keysP m) es.toList hn (by simpa [keysP] using hsz) (mapP_keys hent)
      obtain ⟨k, hjk, cs0, h2, h3⟩ := pfind_off ns (keysP m) 0 j hj
      have : j = k := by omega
      subst this
      obtain ⟨p0, hp0⟩ := keysP_get h2
      obtain ⟨e0, g1, g2, g3, g4, g5⟩ := hent j ns p0 hp0
      have he : es.toList[j]? = some e0 := by simpa using g1
      rw [hj] at hf
      simp only [Option.bind_some, he, Option.map_some] at hf
      have hvr := hg.ev hv
      generalize hu' : a.eval vx = u at hvr
      have hsame : (Instr.keyThatStays (((es[j]?).map (·.key)).getD (keyV ks ns)) (keyV ks ns)).run P w = .ok (keyV ks ns) w := by
        simp only [g1, Option.map_some, Option.getD_some, g2, Instr.keyThatStays, sameBits_key, if_true, Sem.run_pure]
      have hrun : (Instr.mapUpdate t (.map (some blk)) (keyV ks ns) u).run P w = .ok () { w with heap := w.heap.setIfInBounds blk (.map (es.modify j fun e => { e with key := keyV ks ns, val := u }) ck) } := by
        simp only [Instr.mapUpdate, Sem.run_bind, run_underlying hu, Result.andThen_ok, MapKept.run_getObj_map hh, K.check w _ ns hn, hf, hsame]
        exact MapKept.run_setObj_map _ hh
      refine ⟨_, by simp only [execOp, hxv, keyP_eq (hg.ev hk), hu', Sem.run_bind, hrun, Result.andThen_ok, Sem.run_pure]; rfl, g, ?_⟩
      have hown := hg.own id _ blk n hl hgi
      have hother : ∀ k, k < w.heap.size → k ≠ blk → ({ w with heap := w.heap.setIfInBounds blk (.map (es.modify j fun e => { e with key := keyV ks ns, val := u }) ck) } : World).heap[k]? = w.heap[k]? := fun k _ hne => set_other w blk k _ hne
      have hst' : Stays w { w with heap := w.heap.setIfInBounds blk (.map (es.modify j fun e => { e with key := keyV ks ns, val := u }) ck) } (Free ctx g s.objs) := ⟨by simp, fun b ⟨_, h2⟩ hlt => hother b hlt fun e => by subst e; exact h2 id _ n hl hgi⟩
      refine hg.wrote hl hgi rfl rfl rfl (by simp) hother hown.2 (.mapP ks _ _ bs ck blk n (es.modify j fun e => { e with key := keyV ks ns, val := u }) hgi (set_same w blk _ hown.1) (by simp [hsz]) ?_ hbl hnd (fun i nn' u' hi => ?_) fun j' p' hj' => ?_)
      · rw [hst]
        apply List.ext_getElem?
        intro i
        simp only [List.getElem?_map, Array.getElem?_toList, Array.getElem?_modify]
        by_cases hij : j = i
        · subst hij; simp [g1]
        · simp [hij]
      · by_cases hij : i = j
        · subst hij
          rw [hp0] at hi
          cases hi
          exact ⟨_, by rw [Array.getElem?_modify, if_pos rfl, g1]; rfl, rfl, hn, row_one hvr, fun hne => (hne _ rfl).elim⟩
        · obtain ⟨e, q1, q2, q3, q4, q5⟩ := hent i nn' u' hi
          exact ⟨e, by rw [Array.getElem?_modify, if_neg (Ne.symm hij)]; exact q1, q2, q3, q4, fun _ => q5 fun p hp => by cases hp; exact hij rfl⟩
      · cases hj'
        exact ⟨_, by rw [Array.getElem?_modify, if_pos rfl, g1]; rfl, hvr.keep hst' (fun b hb _ => free_put hl b hb) (fun _ _ => rfl)⟩
theorem LR.mapUpdatePN {vx : Operand} {q nn : Nat} (hov : ov = none) (hv : s.ev vx = some (.row q nn)) (hj : pfind ns (keysP m) 0 = none) : Local P ctx ⟨none, .mapUpdate t x kx vx, ty, pos, after, gd⟩ s (s.setO id (.mapP ks (m ++ [(ns, undef)]) (some (m.length, .row q nn)) (bs ++ [ck]) (ck + 1))) := by
  subst hov
  refine local_skip (o := ⟨none, .mapUpdate t x kx vx, ty, pos, after, gd⟩) fun a w g hg => ?_
  have h := hg.ev hx
  generalize hxv : a.eval x = v at h
  cases h with
  | mp _ blk n hgi =>
    cases hg.objs id _ hl with
    | mapP _ _ _ _ _ blk' n' es h' hh hsz hst hbl hnd hent hov =>
      rw [hgi] at h'; cases h'
      have hf := K.find w ns (keysP m) es.toList hn (by simpa [keysP] using hsz) (mapP_keys hent)
      rw [hj] at hf
      simp only [Option.bind_none] at hf
      have hvr := hg.ev hv
      generalize hu' : a.eval vx = u at hvr
      have hrun : (Instr.mapUpdate t (.map (some blk)) (keyV ks ns) u).run P w = .ok () { w with heap := w.heap.setIfInBounds blk (.map (es.push { key := keyV ks ns, val := u, born := ck }) (ck + 1)) } := by
        simp only [Instr.mapUpdate, Sem.run_bind, run_underlying hu, Result.andThen_ok, MapKept.run_getObj_map hh, K.check w _ ns hn, hf]
        exact MapKept.run_setObj_map _ hh
      refine ⟨_, by simp only [execOp, hxv, keyP_eq (hg.ev hk), hu', Sem.run_bind, hrun, Result.andThen_ok, Sem.run_pure]; rfl, g, ?_⟩
      have hown := hg.own id _ blk n hl hgi
      have hother : ∀ k, k < w.heap.size → k ≠ blk → ({ w with heap := w.heap.setIfInBounds blk (.map (es.push { key := keyV ks ns, val := u, born := ck }) (ck + 1)) } : World).heap[k]? = w.heap[k]? := fun k _ hne => set_other w blk k _ hne
      have hst' : Stays w { w with heap := w.heap.setIfInBounds blk (.map (es.push { key := keyV ks ns, val := u, born := ck }) (ck + 1)) } (Free ctx g s.objs) := ⟨by simp, fun b ⟨_, h2⟩ hlt => hother b hlt fun e => by subst e; exact h2 id _ n hl hgi⟩
      refine hg.wrote hl hgi rfl rfl rfl (by simp) hother hown.2 (.mapP ks _ _ (bs ++ [ck]) (ck + 1) blk n (es.push { key := keyV ks ns, val := u, born := ck }) hgi (set_same w blk _ hown.1) (by simp [hsz]) (by simp [hst]) ?_ ?_ (fun i nn' u' hi => ?_) fun j' p' hj' => ?_)
      · intro b hb
        rcases List.mem_append.1 hb with h | h
        · have := hbl b h; omega
        · simp at h; omega
      · rw [List.nodup_append]
        refine ⟨hnd, by simp, fun b hb c hc => ?_⟩
        simp at hc
        have := hbl b hb
        omega
      · rw [List.getElem?_append] at hi
        split at hi
        · rename_i hlt
          obtain ⟨e, q1, q2, q3, q4, q5⟩ := hent i nn' u' hi
          exact ⟨e, by rw [Array.getElem?_push, if_neg (by rw [hsz]; omega)]; exact q1, q2, q3, q4, fun _ => q5 fun p hp => by cases hp⟩
        · rename_i hge
          have hi0 : i = m.length := by
            have : i - m.length < 1 := by simpa using (List.getElem?_eq_some_iff.1 hi).1
            omega
          subst hi0
          simp at hi
          obtain ⟨rfl, rfl⟩ := hi
          exact ⟨_, by rw [Array.getElem?_push, if_pos hsz.symm], rfl, hn, row_one hvr, fun hne => (hne _ rfl).elim⟩
      · cases hj'
        exact ⟨_, by rw [Array.getElem?_push, if_pos hsz.symm], hvr.keep hst' (fun b hb _ => free_put hl b hb) (fun _ _ => rfl)⟩
end
end

/-! ### 'append' to the row that an entry names -/
section
variable {P : Program} {ctx : Ctx} {ops : Array Oper} {Q : PState → Prop} {s : PState}
variable {dst : Option Tmp} {ty : TypeId} {pos : String} {after : Array Edge} {gd : Option (Nat × Bool)}
theorem Local.post {o : Oper} {t u : PState} (h : Local P ctx o s t) (hs : Sub ctx t u) : Local P ctx o s u := fun a w hr K Qx hK => h a w hr K Qx fun a' w' h' => hK a' w' (hs a' w' h')
theorem Local.pre {o : Oper} {t u : PState} (hs : Sub ctx s t) (h : Local P ctx o t u) : Local P ctx o s u := fun a w hr K Qx hK => h a w (hs a w hr) K Qx hK
section
variable {α : Type} {enc : α → List DV} {L R : List α} {x y : Operand} {id mid m k bs' : Nat} {t t' e e' : TypeId} {ks : List IntKind} {mm : List (List Int × Value)} {j : Nat} {p : PV} {bs : List Nat} {ck : Nat}
theorem LR.appP (js : List Nat) (hE : ElemOK P t e k bs') (hu' : P.underlying t' = some (.slice e')) (hx : s.ev x = some (.row id m)) (hm : m = L.length) (hl : look s.objs id = some (.row e k (L.map enc)))
    (hlm : look s.objs mid = some (.mapP ks mm (some (j, p)) bs ck)) (hne : Nat.beq id mid = false)
    (hy : ∀ s' : PState, s'.n = s.n → s'.sl = s.sl → Src ctx s' y (R.map enc) k) (hk : ∀ x, (enc x).length = k) (hb : (L.length + R.length) * bs' ≤ 140737488355328) (h1 : Nat.ble 1 bs' = true) (ha : (s.junks js).aloneX id [mid] = true) :
    Local P ctx ⟨dst, .call ⟨.builtin .append, #[x, y], #[t, t']⟩, ty, pos, after, gd⟩ s ((((s.junks js).setO mid (.mapP ks mm (some (j, .junk)) bs ck)).setO id (.row e k ((L ++ R).map enc))).putD dst (.row id (L ++ R).length)) := by
  have hne' : id ≠ mid := fun e => by rw [e] at hne; simp at hne
  let s2 : PState := { s with objs := putO mid (.mapP ks mm (some (j, .junk)) bs ck) (delO mid s.objs) }
  have hsub : Sub ctx s s2 := fun a w ⟨g, hg⟩ => ⟨g, hg.reread hlm (look_putdel _ _ _) fun S h => h.junkP⟩
  have hj2 : ∀ js, (s2.junks js).sl = (s.junks js).sl := fun js => by rw [junks_sl, junks_sl]
  have ha2 : (s2.junks js).alone id = true := by
    unfold PState.aloneX at ha
    unfold PState.alone
    rw [hj2 js]
    rw [Bool.and_eq_true] at ha ⊢
    refine ⟨ha.1, List.all_eq_true.2 fun q hq => ?_⟩
    rw [junks_objs] at hq
    have h2 := List.all_eq_true.1 ha.2
    obtain ⟨qk, qo⟩ := q
    rcases putO_mem hq with h3 | h3
    · cases h3; rfl
    · have h4 := delO_mem h3
      have h5 := h2 (qk, qo) (by rw [junks_objs]; exact h4.2)
      have h6 : inL [mid] qk = false := by
        rw [inL_false]; simpa using h4.1
      simpa [h6] using h5
  have hl2 : look s2.objs id = some (.row e k (L.map enc)) := by
    show look (putO _ _ _) _ = _
    rw [look_putdel, if_neg hne']; exact hl
  refine Local.pre hsub ((LR.appT (enc := enc) (L := L) (R := R) (s := s2) js hE hu' (by cases x <;> exact hx) hm hl2 (hy s2 rfl rfl) hk hb h1 ha2).post ?_)
  refine Sub.drop ?_ (fun i q hq => ?_) (fun i o ho => ?_)
  · simp only [putD_len]
    show (s2.junks js).n = (s.junks js).n
    rw [junks_n, junks_n]
  · have hsl : (((s2.junks js).setO id (.row e k ((L ++ R).map enc))).putD dst (.row id (L ++ R).length)).sl = ((((s.junks js).setO mid (.mapP ks mm (some (j, .junk)) bs ck)).setO id (.row e k ((L ++ R).map enc))).putD dst (.row id (L ++ R).length)).sl := by
      cases dst <;> simp [PState.putD, PState.put, PState.setO, hj2]
    have hn : (((s2.junks js).setO id (.row e k ((L ++ R).map enc))).putD dst (.row id (L ++ R).length)).n = ((((s.junks js).setO mid (.mapP ks mm (some (j, .junk)) bs ck)).setO id (.row e k ((L ++ R).map enc))).putD dst (.row id (L ++ R).length)).n := by
      simp only [putD_len]
      show (s2.junks js).n = (s.junks js).n
      rw [junks_n, junks_n]
    rw [at_eq] at hq ⊢
    rw [hsl, hn]; exact hq
  · rw [putD_objs] at ho ⊢
    simp only [PState.setO, junks_objs] at ho ⊢
    rw [look_putO] at ho ⊢
    by_cases hi : i = id
    · rw [if_pos hi] at ho ⊢; exact ho
    · rw [if_neg hi] at ho ⊢
      rw [look_putO] at ho
      show look (putO _ _ (delO _ _)) _ = _
      rw [look_putdel]; exact ho
/-- .. in a drawn region. -/
theorem PQe.stepX {o : Oper} {rest : List Oper} {f : Ft} {fs : List Ft} {p : PV} {id mid : Nat} {ob obm : Ob} (js : List Nat) (hl : ∀ s' : PState, (∀ {x q}, readsX o x = true → s.ev x = some q → s'.ev x = some q) → (∀ {id ob}, inL f.ro id = true → look s.objs id = some ob → look s'.objs id = some ob) → (s'.junks js).aloneX id [mid] = true → Local P ctx o s' ((((s'.junks js).setO mid obm).setO id ob).putD o.dst p))
    (ha : inAl f.al id js = true) (hao : f.ao = [mid]) (hg : Wd ops o s) (hk : okE f ⟨dstL o.dst p ++ (js.map fun t => (t, PV.junk)).reverse, [(id, ob), (mid, obm)]⟩ = true) (h : PQe P ctx ops Q rest fs ((((s.junks js).setO mid obm).setO id ob).putD o.dst p)) : PQe P ctx ops Q (o :: rest) (f :: fs) s := by
  have happ : ∀ s : PState, s.app ⟨dstL o.dst p ++ (js.map fun t => (t, PV.junk)).reverse, [(id, ob), (mid, obm)]⟩ = (((s.junks js).setO mid obm).setO id ob).putD o.dst p := fun s => by
    have h1 := junks_sl js s
    have h2 := junks_n js s
    have h3 := junks_objs js s
    cases o.dst <;> simp [PState.app, dstL, PState.putD, PState.put, PState.setO, h1, h2, h3]
  refine .step (e := ⟨dstL o.dst p ++ (js.map fun t => (t, PV.junk)).reverse, [(id, ob), (mid, obm)]⟩) (fun s' _ he ho _ hal => ?_) hg hk (by rw [happ]; exact h)
  rw [happ]
  refine hl s' he (fun hi => ho (inL_iff.1 hi)) ?_
  unfold inAl at ha
  obtain ⟨a, h1, h2⟩ := List.any_eq_true.1 ha
  simp only [Bool.and_eq_true, beq_iff_eq] at h2
  have := hal a h1
  rwa [Nat.eq_of_beq_eq_true h2.1, h2.2, hao] at this
/-- 'append' to a slot's nil. -/
theorem LR.appNilX (hE : ElemOK P t e k bs') (hu' : P.underlying t' = some (.slice e')) (hx : s.ev x = some (.d (.v (.slice none 0 0)))) (hf : s.fresh id = true)
    (hy : Src ctx { s with objs := putO id (.row e k []) s.objs } y (R.map enc) k) (hk : ∀ x, (enc x).length = k) (hb : R.length * bs' ≤ 140737488355328) (h1 : Nat.ble 1 bs' = true) (ha : ({ s with objs := putO id (.row e k []) s.objs } : PState).alone id = true) :
    Local P ctx ⟨some id, .call ⟨.builtin .append, #[x, y], #[t, t']⟩, ty, pos, after, gd⟩ s (s.newO id (.row e k (R.map enc)) (.row id R.length)) := by
  rintro a w ⟨g, hg⟩ K Qx hK
  have hn := hg.new (Go.RowKit.Below.refl _ w) hf none (fun b n e => by cases e) (.row e k []) (.rowNil e k (upd_same _ _ _))
  have h2 := Nat.le_of_ble_eq_true h1
  have h3 : R.length * 1 ≤ R.length * bs' := Nat.mul_le_mul_left _ h2
  have hlk : look (putO id (Ob.row e k []) s.objs) id = some (.row e k []) := by rw [look_putO, if_pos rfl]
  have hxv := hg.ev hx
  have hxe : a.eval x = .slice none 0 0 := hxv.of_v
  obtain ⟨v, w', hrun, hr⟩ := append_core (dst := some id) (ty := ty) (pos := pos) (after := after) (gd := gd) (l := []) (n := 0) (x := x) [] hE hu' hlk rfl hy (eachMap hk R) (by simpa using hb) (by simp; omega) ha hn (by rw [hxe]; exact .rowNil id (upd_same _ _ _))
  unfold Oper.wp
  rw [hrun]
  refine hK _ _ ?_
  refine Sub.drop ?_ (fun i q hq => ?_) (fun i o ho => ?_) _ _ hr
  · rfl
  · rw [Nat.zero_add, List.length_map]; exact hq
  · simp only [PState.newO, look_putO] at ho
    simp only [PState.putD, PState.put, PState.setO, PState.junks, look_putO, List.nil_append]
    by_cases hi : i = id
    · rw [if_pos hi] at ho ⊢; exact ho
    · rw [if_neg hi] at ho; rw [if_neg hi, if_neg hi]; exact ho
end
end
end Go.Ep
