/- Texts that the walks and laws lean on, side by side. -/
import Derived.ProofKit
import Derived.Deep.Slices
import Derived.Test.YthmblgneimcgpaaGreatProg
import Derived.KernelRfl
import Derived.Test.YthmblgneimcgpaaGreatANi2
import Derived.Test.YthmblgneimcgpaaGreatANi10
set_option linter.unusedVariables false
set_option linter.unusedSimpArgs false
namespace Go.Ep.M.J
open Go

section
variable {κ ν:Type} [DecidableEq κ]
theorem mem_iff_get {m:List (κ × ν)} (hn:(m.map (·.1)).Nodup) {k:κ} {v:ν}:(k,v) ∈ m ↔ AL.get m k = some v:=⟨AL.mem_get hn,AL.get_mem⟩
theorem mem_set {m:List (κ × ν)} (hn:(m.map (·.1)).Nodup) {k q:κ} {v u:ν}:(q,u) ∈ AL.set m k v ↔ (q = k ∧ u = v) ∨ (q ≠ k ∧ (q,u) ∈ m):=by
 rw [mem_iff_get (AL.nodup_set hn k v),AL.get_set,mem_iff_get hn]
 by_cases h:k = q
 ·subst h;simp [eq_comm]
 ·have h':q ≠ k:=fun e=>h e.symm
  simp [h,h']
end

theorem nf_starts : ∀ {l:List TRun},R.Nf l → ∀ x ∈ l,R.hasR l x.lo = true ∧ R.hasR l (x.lo - 1) = false
 | [],_,x,hx=>by cases hx
 | y :: r,h,x,hx=>by
  obtain ⟨h1,h2,h3⟩:=h;have hy:=R.mayR_iff.1 h1;rcases List.mem_cons.1 hx with rfl | hx
  ·refine ⟨R.nf_head ⟨h1,h2,h3⟩,Bool.eq_false_iff.2 fun hc=>?_⟩;have:=R.nf_least ⟨h1,h2,h3⟩ hc;omega
  ·obtain ⟨g1,g2⟩:=nf_starts h3 x hx;have:=h2 x hx;refine ⟨by rw [R.hasR_cons,g1,Bool.or_true],?_⟩;rw [R.hasR_cons,g2,Bool.or_false];refine Bool.eq_false_iff.2 fun hc=>?_
   have:=(R.inR_iff.1 hc).2;omega
theorem nf_nodup : ∀ {l:List TRun},R.Nf l → (l.map (·.lo)).Nodup
 | [],_=>List.nodup_nil
 | y :: r,h=>by
  obtain ⟨h1,h2,h3⟩:=h;have hy:=R.mayR_iff.1 h1;rw [List.map_cons,List.nodup_cons];refine ⟨fun hc=>?_,nf_nodup h3⟩;obtain ⟨z,hz,e⟩:=List.mem_map.1 hc;have:=h2 z hz;omega
theorem start_mem {a:List TRun} {n:Int} (h1:R.hasR a n = true) (h2:R.hasR a (n - 1) = false):n ∈ a.map (·.lo):=by
 obtain ⟨x,hx,g1,g2,g3⟩:=R.hasR_iff.1 h1
 by_cases h:x.lo = n
 ·exact List.mem_map.2 ⟨x,hx,h⟩
 ·have:R.hasR a (n - 1) = true:=R.hasR_iff.2 ⟨x,hx,g1,by omega,by omega⟩;rw [h2] at this;cases this
def Mon (op:Bool → Bool → Bool):Prop:=op false false = false ∧ ∀ p q p' q',op p q = true → op p' q' = false → (p = true ∧ p' = false) ∨ (q = true ∧ q' = false)
theorem mon_or : Mon (· || ·):=⟨rfl,by decide⟩
theorem mon_and : Mon (· && ·):=⟨rfl,by decide⟩
theorem len_setR {op:Bool → Bool → Bool} (h:Mon op) (a b:List TRun):(R.setR op a b).length ≤ a.length + b.length:=by
 obtain ⟨h1,h2,_⟩:=R.setR_props op h.1 a b;have:=List.Nodup.length_le_of_subset (nf_nodup h1) (l₂:=a.map (·.lo) ++ b.map (·.lo)) (fun n hn=>by
  obtain ⟨x,hx,rfl⟩:=List.mem_map.1 hn;obtain ⟨g1,g2⟩:=nf_starts h1 x hx;rw [h2] at g1 g2;rcases h.2 _ _ _ _ g1 g2 with ⟨e1,e2⟩ | ⟨e1,e2⟩
  ·exact List.mem_append_left _ (start_mem e1 e2)
  ·exact List.mem_append_right _ (start_mem e1 e2))
 simpa using this
theorem sum_add (ks:List Int) (f g:Int → Nat):(ks.map fun k=>f k + g k).sum = (ks.map f).sum + (ks.map g).sum:=by
 induction ks with
 | nil=>rfl
 | cons k r ih=>simp only [List.map_cons,List.sum_cons,ih];omega
theorem tot_op {op:Bool → Bool → Bool} (h:Mon op) (a b:List TPart):C.totC (C.opC op a b) ≤ C.totC a + C.totC b:=by
 unfold C.opC;rw [C.tot_partsOf];refine Nat.le_trans (C.sum_le fun k=>len_setR h (C.rawC a k) (C.rawC b k)) ?_;rw [sum_add];have h1:=C.rawC_sum a (C.devsC (a ++ b)) (C.devs_nodup _);have h2:=C.rawC_sum b (C.devsC (a ++ b)) (C.devs_nodup _);omega
theorem canon_len : ∀ {c:List TPart},(∀ p ∈ c,p.runs ≠ []) → c.length ≤ C.totC c
 | [],_=>Nat.zero_le _
 | p :: r,h=>by
  have h1:=canon_len (c:=r) fun q hq=>h q (List.mem_cons_of_mem _ hq)
  have h2:=h p List.mem_cons_self;have h3:0 < p.runs.length:=by cases hp:p.runs with | nil=>exact absurd hp h2 | cons _ _=>simp
  have h4:C.totC (p :: r) = p.runs.length + C.totC r:=by simp [C.totC]
  rw [List.length_cons];omega
theorem canon_ok {c:List TPart} (h:C.Canon c) (ht:C.totC c ≤ 100000000):C.Ok c:=⟨fun p hp=>by have:=(h.nf p hp).1;omega,by have:=canon_len fun p hp=>(h.nf p hp).2.1;omega,by omega⟩
theorem rawC_perm {c d:List TPart} (h:c.Perm d) (k:Int):(C.rawC c k).Perm (C.rawC d k):=(h.filter _).flatMap_right _
theorem hasC_perm {c d:List TPart} (h:c.Perm d) (k n:Int):C.hasC c k n = C.hasC d k n:=R.hasR_perm (rawC_perm h k) n
theorem totC_perm {c d:List TPart} (h:c.Perm d):C.totC c = C.totC d:=(h.map _).sum_nat
theorem hasC_zero (l:List TRun) (c:List TPart) (k n:Int):C.hasC (⟨0,l⟩ :: c) k n = C.hasC c k n:=by
 unfold C.hasC;rw [C.rawC_cons,if_neg (fun h=>by have h1:(0:Int) = k:=h.1;omega)];rfl
theorem part_has {c:List TPart} (h:C.Canon c) {p:TPart} (hp:p ∈ c):∃ n,C.hasC c p.dev n = true:=by
 obtain ⟨h1,h2,h3⟩:=h.nf p hp
 cases hr:p.runs with
 | nil=>exact absurd hr h2
 | cons x r=>
  rw [hr] at h3;exact ⟨x.lo,by unfold C.hasC;rw [C.ordP_raw h.ord p hp h1,hr];exact R.nf_head h3⟩
theorem has_dev {c:List TPart} {k n:Int} (h:C.hasC c k n = true):∃ p ∈ c,p.dev = k:=by
 have h1:C.rawC c k ≠ []:=fun e=>by unfold C.hasC at h;rw [e] at h;cases h
 exact (C.mem_devs.1 (C.raw_devs h1)).1

def isW (x:List R25Row) (w:Int):Bool:=x.any fun r=>decide (r.who = w)
def getW (x:List R25Row) (w:Int):List TPart:=match x.find? fun r=>decide (r.who = w) with | some r=>r.c | none=>[]
abbrev Srt (x:List R25Row):Prop:=x.Pairwise fun a b=>a.who < b.who
theorem isW_iff {x:List R25Row} {w:Int}:isW x w = true ↔ ∃ r ∈ x,r.who = w:=by simp [isW]
theorem srt_one {x:List R25Row} (h:Srt x) {r s:R25Row} (hr:r ∈ x) (hs:s ∈ x) (e:r.who = s.who):r = s:=by
 induction x with
 | nil=>cases hr
 | cons y z ih=>
  obtain ⟨h1,h2⟩:=List.pairwise_cons.1 h;rcases List.mem_cons.1 hr with e1 | hr <;> rcases List.mem_cons.1 hs with e2 | hs
  ·rw [e1,e2]
  ·have:=h1 s hs;rw [← e,e1] at this;omega
  ·have:=h1 r hr;rw [e,e2] at this;omega
  ·exact ih h2 hr hs
theorem getW_mem {x:List R25Row} (h:Srt x) {r:R25Row} (hr:r ∈ x):getW x r.who = r.c:=by
 unfold getW
 cases hf:x.find? fun s=>decide (s.who = r.who) with
 | none=>exact absurd (by simp) (List.find?_eq_none.1 hf r hr)
 | some s=>
  have h1:=List.find?_some hf;rw [srt_one h (List.mem_of_find?_eq_some hf) hr (of_decide_eq_true h1)]
theorem getW_none {x:List R25Row} {w:Int} (h:isW x w = false):getW x w = []:=by
 unfold getW
 cases hf:x.find? fun s=>decide (s.who = w) with
 | none=>rfl
 | some s=>
  have h1:=List.find?_some hf;rw [isW_iff.2 ⟨s,List.mem_of_find?_eq_some hf,of_decide_eq_true h1⟩] at h;cases h
abbrev Mx:=List ((Int × Int) × List TRun)
structure Rep (B n:Nat) (nl:Bool) (m:Mx) (x:List R25Row):Prop where
 nd:(m.map (·.1)).Nodup
 mem:∀ w k l,((w,k),l) ∈ m ↔ ∃ r ∈ x,r.who = w ∧ ((k = 0 ∧ l = []) ∨ (⟨k,l⟩:TPart) ∈ r.c)
 srt:Srt x
 can:∀ r ∈ x,C.Canon r.c
 tot:∀ r ∈ x,C.totC r.c ≤ B
 len:x.length ≤ n
 nil:nl = true → m = []
theorem rep_nil (B n:Nat):Rep B n true [] []:=⟨List.nodup_nil,fun w k l=>by simp,List.Pairwise.nil,fun r h=>by simp at h,fun r h=>by simp at h,Nat.zero_le _,fun _=>rfl⟩
section
variable {B n:Nat} {nl:Bool} {m:Mx} {x:List R25Row} (hR:Rep B n nl m x)
include hR
theorem Rep.up {B' n':Nat} (h1:B ≤ B') (h2:n ≤ n'):Rep B' n' nl m x:={ hR with tot:=fun r hr=>Nat.le_trans (hR.tot r hr) h1,len:=Nat.le_trans hR.len h2 }
theorem Rep.is (w:Int):ack_Matrix_is_o w nl m = pure (isW x w):=by
 unfold ack_Matrix_is_o;refine congrArg pure ?_;rw [Bool.eq_iff_iff,isW_iff];unfold AL.has
 constructor
 ·intro h;obtain ⟨l,hl⟩:=Option.isSome_iff_exists.1 h;obtain ⟨r,hr,e,_⟩:=(hR.mem w 0 l).1 (AL.get_mem hl);exact ⟨r,hr,e⟩
 ·rintro ⟨r,hr,e⟩;rw [AL.mem_get hR.nd ((hR.mem w 0 []).2 ⟨r,hr,e,.inl ⟨rfl,rfl⟩⟩)];rfl
theorem Rep.put (w k:Int) (l:List TRun):ack_Matrix_put_o w k l nl m = pure (false,AL.set m (w,k) l):=by
 unfold ack_Matrix_put_o
 cases h:nl with
 | false=>rfl
 | true=>rw [hR.nil h];rfl
end

def rowF (w:Int) (e:(Int × Int) × List TRun):Option TPart:=if e.1.1 = w then some ⟨e.1.2,e.2⟩ else none
theorem row_loop (w:Int) (m:Mx) (hl:m.length ≤ 1000000000000) {Q:List TPart → Prop} (hQ:∀ c,c.Perm (m.filterMap (rowF w)) → Q c):(loop (ack_Matrix_Row_o_l0 m w) ([],([]:List TPart))).wp Q:=by
 refine M.loopM m (fun L (t:List TPart)=>(L,t)) (fun t e=>cond (decide (e.1.1 = w)) (need ((t.length + 1) * 32 ≤ 140737488355328) (pure (t ++ [⟨e.1.2,e.2⟩]))) (pure t)) (fun t=>pure t)
  (fun l t=>t = l.filterMap (rowF w)) Q (fun L t hL=>?_) (fun l t y ht hlen hy=>?_) (fun l t hp ht=>?_) [] rfl
 ·show need _ ((nxt _ _).bind _) = need _ ((nxt _ _).bind _);refine congrArg (fun k=>need _ ((nxt _ _).bind k)) (funext fun o=>?_)
  cases o with
  | none=>rfl
  | some i=>
   refine congrArg (fun k=>(idx m (Int.ofNat i)).bind k) (funext fun y=>?_);show cond _ _ _ = M.bind (cond _ _ _) _;rw [bind_cond];rfl
 ·by_cases h:y.1.1 = w
  ·refine ⟨t ++ [⟨y.1.2,y.2⟩],?_,?_⟩
   ·have hb:t.length ≤ l.length:=by rw [ht];exact List.length_filterMap_le _ _
    rw [decide_eq_true h,cond_true,need_true (by omega)]
   ·rw [ht,List.filterMap_append];simp [rowF,h]
  ·refine ⟨t,by rw [decide_eq_false h,cond_false],?_⟩;rw [ht,List.filterMap_append];simp [rowF,h]
 ·refine hQ t ?_;rw [ht];exact hp.filterMap _
section
variable {B n:Nat} {nl:Bool} {m:Mx} {x:List R25Row} (hR:Rep B n nl m x)
include hR
theorem Rep.rowL (w:Int):(m.filterMap (rowF w)).Perm (if isW x w then ⟨0,[]⟩ :: getW x w else []):=by
 have hnd:(m.filterMap (rowF w)).Nodup:=by
  have h1:m.Pairwise fun a b=>a.1 ≠ b.1:=by
   have:=hR.nd;rw [List.Nodup,List.pairwise_map] at this;exact this
  refine List.Pairwise.filterMap (rowF w) (fun a b hab p hp q hq=>?_) h1;unfold rowF at hp hq
  split at hp
  ·split at hq
   ·rename_i e1 e2
    cases hp;cases hq
    intro e
    injection e with e3 e4
    exact hab (Prod.ext (e1.trans e2.symm) e3)
   ·cases hq
  ·cases hp
 have hmem:∀ p:TPart,p ∈ m.filterMap (rowF w) ↔ ((w,p.dev),p.runs) ∈ m:=fun p=>by
  rw [List.mem_filterMap]
  constructor
  ·rintro ⟨e,he,h⟩;unfold rowF at h
   split at h
   ·rename_i hw
    cases h
    rw [← hw];exact he
   ·cases h
  ·intro h;exact ⟨_,h,by simp [rowF]⟩
 by_cases hw:isW x w = true
 ·rw [if_pos hw];obtain ⟨r,hr,rfl⟩:=isW_iff.1 hw;have hc:=hR.can r hr;rw [getW_mem hR.srt hr];refine (List.perm_ext_iff_of_nodup hnd ?_).2 fun p=>?_
  ·rw [List.nodup_cons];refine ⟨fun h=>?_,hc.ord.imp fun {a b} h e=>by rw [e] at h;omega⟩;have:=(hc.nf _ h).1;simp at this
  ·rw [hmem,hR.mem,List.mem_cons]
   constructor
   ·rintro ⟨s,hs,e,h⟩;rw [srt_one hR.srt hs hr e] at h;rcases h with ⟨h1,h2⟩ | h
    ·left;cases p;simp at h1 h2;simp [h1,h2]
    ·right;exact h
   ·rintro (rfl | h)
    ·exact ⟨r,hr,rfl,.inl ⟨rfl,rfl⟩⟩
    ·exact ⟨r,hr,rfl,.inr h⟩
 ·rw [if_neg hw];have:m.filterMap (rowF w) = []:=by
   refine List.eq_nil_iff_forall_not_mem.2 fun p hp=>?_
   obtain ⟨r,hr,e,_⟩:=(hR.mem _ _ _).1 ((hmem p).1 hp);exact hw (isW_iff.2 ⟨r,hr,e⟩)
  rw [this]
theorem Rep.getC (w:Int):C.Canon (getW x w) ∧ C.totC (getW x w) ≤ B:=by
 by_cases hw:isW x w = true
 ·obtain ⟨r,hr,rfl⟩:=isW_iff.1 hw;rw [getW_mem hR.srt hr];exact ⟨hR.can r hr,hR.tot r hr⟩
 ·rw [getW_none (by simpa using hw)];exact ⟨C.canon_nil,Nat.zero_le _⟩
theorem Rep.row (hB:B ≤ 100000000) (hm:m.length ≤ 1000000000000) (w:Int):ack_Matrix_Row_o w nl m = pure (getW x w):=by
 refine eq_pure ?_;unfold ack_Matrix_Row_o;refine row_loop w m hm fun c hc=>?_
 have h1:=hc.trans (hR.rowL w);obtain ⟨g1,g2⟩:=hR.getC w;have gl:=canon_len fun p hp=>(g1.nf p hp).2.1
 have hsm:C.Sm c:=by
  by_cases hw:isW x w = true
  ·rw [if_pos hw] at h1;refine ⟨by have:=h1.length_eq;rw [List.length_cons] at this;omega,?_⟩;rw [totC_perm h1];simp only [C.totC,List.map_cons,List.length_nil,List.sum_cons,Nat.zero_add] at g2 ⊢;omega
  ·rw [if_neg hw] at h1;rw [h1.eq_nil];exact ⟨by simp,by simp [C.totC]⟩
 have hn:C.normC c = getW x w:=by
  have h2:C.normC c = C.normC (getW x w):=C.normC_ext fun k q=>by
   rw [hasC_perm h1]
   by_cases hw:isW x w = true
   ·rw [if_pos hw,hasC_zero]
   ·rw [if_neg hw,getW_none (by simpa using hw)]
  rw [h2,C.norm_canon g1]
 show ((det (ctx_Norm c)).bind _).wp _;rw [C.Norm_eq c hsm,det_pure,pure_bind,hn]
 rfl
end


section
variable {B n:Nat} {nl:Bool} {m:Mx} {x:List R25Row} (hR:Rep B n nl m x)
include hR
theorem Rep.mlen : m.length ≤ n * (B + 1):=by
 have h1:m.Nodup:=by
  have:=hR.nd;rw [List.Nodup,List.pairwise_map] at this;exact this.imp fun h e=>h (congrArg _ e)
 have h2:=List.Nodup.length_le_of_subset h1 (l₂:=x.flatMap fun r=>((r.who,0),[]) :: r.c.map fun p=>((r.who,p.dev),p.runs)) (fun e he=>by
  obtain ⟨⟨w,k⟩,l⟩:=e;obtain ⟨r,hr,e1,h⟩:=(hR.mem w k l).1 he;rw [List.mem_flatMap];refine ⟨r,hr,?_⟩;subst e1;rcases h with ⟨rfl,rfl⟩ | h
  ·exact List.mem_cons_self
  ·exact List.mem_cons_of_mem _ (List.mem_map.2 ⟨_,h,rfl⟩))
 have h3:∀ z:List R25Row,(∀ r ∈ z,r.c.length ≤ B) → (z.flatMap fun r=>(((r.who,0),[]):(Int × Int) × List TRun) :: r.c.map fun p=>((r.who,p.dev),p.runs)).length ≤ z.length * (B + 1):=by
  intro z
  induction z with
  | nil=>intro _;simp
  | cons r z ih=>
   intro hz;have h4:=ih fun s hs=>hz s (List.mem_cons_of_mem _ hs)
   have h5:=hz r List.mem_cons_self;rw [List.flatMap_cons,List.length_append,List.length_cons,List.length_map,List.length_cons,Nat.succ_mul];omega
 have h4:=h3 x fun r hr=>by have:=canon_len fun p hp=>((hR.can r hr).nf p hp).2.1;have:=hR.tot r hr;omega
 exact Nat.le_trans h2 (Nat.le_trans h4 (Nat.mul_le_mul_right _ hR.len))
theorem Rep.Row (hS:n ≤ 1000 ∧ B ≤ 100000000) (w:Int):ack_Matrix_Row_o w nl m = pure (getW x w):=by
 refine hR.row hS.2 (Nat.le_trans hR.mlen ?_) w
 calc n * (B + 1) ≤ 1000 * (B + 1):=Nat.mul_le_mul_right _ hS.1
  _ ≤ 1000000000000:=by omega
end

def insW (x:List R25Row) (w:Int):List R25Row:=x.filter (fun r=>decide (r.who < w)) ++ ⟨w,[]⟩ :: x.filter (fun r=>decide (w < r.who))
def joinR (x:List R25Row) (w:Int):List R25Row:=if w = 0 ∨ isW x w = true then x else insW x w
theorem mem_insW {x:List R25Row} {w:Int} (h:isW x w = false) {r:R25Row}:r ∈ insW x w ↔ r ∈ x ∨ r = ⟨w,[]⟩:=by
 unfold insW;rw [List.mem_append,List.mem_cons,List.mem_filter,List.mem_filter,decide_eq_true_eq,decide_eq_true_eq]
 constructor
 ·rintro (⟨h1,_⟩ | h1 | ⟨h1,_⟩)
  ·exact .inl h1
  ·exact .inr h1
  ·exact .inl h1
 ·rintro (h1 | h1)
  ·have:r.who ≠ w:=fun e=>by rw [isW_iff.2 ⟨r,h1,e⟩] at h;cases h
   by_cases h2:r.who < w
   ·exact .inl ⟨h1,h2⟩
   ·exact .inr (.inr ⟨h1,by omega⟩)
  ·exact .inr (.inl h1)
theorem srt_insW {x:List R25Row} (h:Srt x) (w:Int):Srt (insW x w):=by
 unfold insW;refine List.pairwise_append.2 ⟨h.sublist List.filter_sublist,List.pairwise_cons.2 ⟨fun r hr=>?_,h.sublist List.filter_sublist⟩,fun a ha b hb=>?_⟩
 ·exact of_decide_eq_true (List.mem_filter.1 hr).2
 ·have h1:=of_decide_eq_true (List.mem_filter.1 ha).2;rcases List.mem_cons.1 hb with rfl | hb
  ·exact h1
  ·have h2:=of_decide_eq_true (List.mem_filter.1 hb).2;omega
theorem len_insW {x:List R25Row} (h:Srt x) {w:Int} (hw:isW x w = false):(insW x w).length ≤ x.length + 1:=by
 have hn:(insW x w).Nodup:=(srt_insW h w).imp fun {a b} h e=>by rw [e] at h;omega
 have:=List.Nodup.length_le_of_subset hn (l₂:=⟨w,[]⟩ :: x) (fun r hr=>by
  rcases (mem_insW hw).1 hr with h1 | h1
  ·exact List.mem_cons_of_mem _ h1
  ·rw [h1];exact List.mem_cons_self)
 simpa using this
section
variable {B n:Nat} {nl:Bool} {m:Mx} {x:List R25Row} (hR:Rep B n nl m x)
include hR
theorem Rep.ins {w:Int} (hw:isW x w = false):Rep B (n + 1) false (AL.set m (w,0) []) (insW x w) where
 nd:=AL.nodup_set hR.nd _ _
 srt:=srt_insW hR.srt w
 can r hr:=by
  rcases (mem_insW hw).1 hr with h | h
  ·exact hR.can r h
  ·rw [h];exact C.canon_nil
 tot r hr:=by
  rcases (mem_insW hw).1 hr with h | h
  ·exact hR.tot r h
  ·rw [h];exact Nat.zero_le _
 len:=by have:=len_insW hR.srt hw;have:=hR.len;omega
 nil h:=by cases h
 mem w' k l:=by
  rw [mem_set hR.nd,hR.mem]
  constructor
  ·rintro (⟨h1,h2⟩ | ⟨h1,r,hr,h2⟩)
   ·cases h1
    exact ⟨⟨w,[]⟩,(mem_insW hw).2 (.inr rfl),rfl,.inl ⟨rfl,h2⟩⟩
   ·exact ⟨r,(mem_insW hw).2 (.inl hr),h2⟩
  ·rintro ⟨r,hr,e,h⟩;rcases (mem_insW hw).1 hr with h1 | h1
   ·refine .inr ⟨fun h2=>?_,r,h1,e,h⟩
    cases h2
    rw [isW_iff.2 ⟨r,h1,e⟩] at hw;cases hw
   ·rw [h1] at e h;rcases h with ⟨h2,h3⟩ | h2
    ·subst e;exact .inl ⟨by rw [h2],h3⟩
    ·cases h2
theorem Rep.join (w:Int):∃ nl' m',ack_Matrix_Join_o w nl m = pure (!(decide (w = 0) || isW x w),nl',m') ∧ Rep B (n + 1) nl' m' (joinR x w):=by
 unfold ack_Matrix_Join_o joinR;rw [hR.is w,det_pure,pure_bind]
 by_cases h0:w = 0
 ·exact ⟨nl,m,by rw [decide_eq_true h0];rfl,by rw [if_pos (.inl h0)];exact hR.up (Nat.le_refl _) (by omega)⟩
 ·rw [decide_eq_false h0,cond_false,pure_bind]
  cases hw:isW x w
  ·exact ⟨false,AL.set m (w,0) [],by rw [cond_false,hR.put,det_pure,pure_bind];rfl,by rw [if_neg (by simp [h0])];exact hR.ins hw⟩
  ·exact ⟨nl,m,rfl,by rw [if_pos (.inr rfl)];exact hR.up (Nat.le_refl _) (by omega)⟩
end

section
variable {B n:Nat} {nl:Bool} {m:Mx} {x:List R25Row} (hR:Rep B n nl m x)
include hR
end

def hearR (x:List R25Row) (w:Int) (c:List TPart):List R25Row:=x.map fun r=>if r.who = w then ⟨r.who,C.opC (· || ·) r.c c⟩ else r
theorem hearR_no {x:List R25Row} {w:Int} {c:List TPart} (h:isW x w = false):hearR x w c = x:=by
 unfold hearR;have:∀ r ∈ x,(if r.who = w then ⟨r.who,C.opC (· || ·) r.c c⟩ else r) = r:=fun r hr=>by
  rw [if_neg fun e=>by rw [isW_iff.2 ⟨r,hr,e⟩] at h;cases h]
 exact (List.map_congr_left this).trans (List.map_id _)
theorem mem_sets (w:Int):∀ (a:List TPart) (m:Mx),C.OrdP a → (m.map (·.1)).Nodup → ((a.foldl (fun m p=>AL.set m (w,p.dev) p.runs) m).map (·.1)).Nodup ∧ ∀ w' k l,((w',k),l) ∈ a.foldl (fun m p=>AL.set m (w,p.dev) p.runs) m ↔ (w' = w ∧ (⟨k,l⟩:TPart) ∈ a) ∨ (¬ (w' = w ∧ ∃ p ∈ a,p.dev = k) ∧ ((w',k),l) ∈ m)
 | [],m,_,hn=>⟨hn,fun w' k l=>by simp⟩
 | p :: r,m,ho,hn=>by
  obtain ⟨o1,o2⟩:=List.pairwise_cons.1 ho;obtain ⟨h1,h2⟩:=mem_sets w r (AL.set m (w,p.dev) p.runs) o2 (AL.nodup_set hn _ _);refine ⟨h1,fun w' k l=>?_⟩;rw [List.foldl_cons,h2,mem_set hn]
  constructor
  ·rintro (⟨e,h⟩ | ⟨g1,⟨e1,e2⟩ | ⟨e1,e2⟩⟩)
   ·exact .inl ⟨e,List.mem_cons_of_mem _ h⟩
   ·cases e1
    exact .inl ⟨rfl,by rw [e2];exact List.mem_cons_self⟩
   ·refine .inr ⟨?_,e2⟩;rintro ⟨g3,q,hq,g4⟩;rcases List.mem_cons.1 hq with rfl | hq
    ·exact e1 (by rw [g3,g4])
    ·exact g1 ⟨g3,q,hq,g4⟩
  ·rintro (⟨e,h⟩ | ⟨g1,g2⟩)
   ·rcases List.mem_cons.1 h with h | h
    ·refine .inr ⟨?_,.inl ⟨by rw [e,← h],by rw [← h]⟩⟩;rintro ⟨_,q,hq,g4⟩;have:=o1 q hq;rw [← h] at this;simp only at this;omega
    ·exact .inl ⟨e,h⟩
   ·refine .inr ⟨?_,.inr ⟨?_,g2⟩⟩
    ·rintro ⟨e1,q,hq,e2⟩;exact g1 ⟨e1,q,List.mem_cons_of_mem _ hq,e2⟩
    ·intro e;cases e;exact g1 ⟨rfl,p,List.mem_cons_self,rfl⟩
section
variable {B n:Nat} {nl:Bool} {m:Mx} {x:List R25Row} (hR:Rep B n nl m x)
include hR
theorem Rep.hear (hS:n ≤ 1000 ∧ B ≤ 1000000) (w:Int) {c:List TPart} (hc:c.length ≤ 1000000 ∧ C.totC c ≤ 1000000):∃ nl' m',ack_Matrix_Hear_o w c nl m = pure (if isW x w then 0 else 6,nl',m') ∧ Rep (B + C.totC c) n nl' m' (hearR x w c):=by
 unfold ack_Matrix_Hear_o;rw [hR.is w,det_pure,pure_bind]
 cases hw:isW x w
 ·exact ⟨nl,m,rfl,by rw [hearR_no hw];exact hR.up (by omega) (Nat.le_refl _)⟩
 obtain ⟨g1,g2⟩:=hR.getC w;have gl:=canon_len fun p hp=>(g1.nf p hp).2.1
 have hj:=C.canon_op (op:=(· || ·)) rfl (getW x w) c;have ht:=tot_op mon_or (getW x w) c;have hl:=canon_len fun p hp=>(hj.nf p hp).2.1
 rw [Bool.not_true,cond_false,hR.Row ⟨hS.1,by omega⟩,det_pure,pure_bind,C.Join_eq _ _ (C.sm_app (by omega) (by omega)),det_pure,pure_bind];have:=M.loopL (body:=ack_Matrix_Hear_o_l0 (C.opC (· || ·) (getW x w) c) w) (C.opC (· || ·) (getW x w) c) (fun i (t:Bool × Mx)=>((i:Int),t.1,t.2)) (fun t p=>(false,AL.set t.2 (w,p.dev) p.runs)) (fun t=>pure (t.1,t.2)) (fun _ t=>t.1 = true → t.2 = []) (fun i p t hp hi hI=>by
  refine ⟨?_,fun h=>by cases h⟩;show cond (decide ((i:Int) < ((C.opC (· || ·) (getW x w) c).length:Int))) _ _ = _;rw [decide_eq_true (by omega),cond_true,idx_nat hp,pure_bind];have hput:ack_Matrix_put_o w p.dev p.runs t.1 t.2 = pure (false,AL.set t.2 (w,p.dev) p.runs):=by
   unfold ack_Matrix_put_o
   cases h:t.1 with
   | false=>rfl
   | true=>rw [hI h];rfl
  rw [hput,det_pure,pure_bind,wSucc (by omega)]) (fun t _=>by
  show cond (decide (((C.opC (· || ·) (getW x w) c).length:Int) < ((C.opC (· || ·) (getW x w) c).length:Int))) _ _ = _;rw [decide_eq_false (by omega)];rfl) (nl,m) hR.nil
 rw [show ((0:Int),nl,m) = (((0:Nat):Int),nl,m) from rfl,this,pure_bind];have hf:∀ (a:List TPart) (t:Bool × Mx),(t.1 = true → t.2 = []) → (a.foldl (fun t p=>(false,AL.set t.2 (w,p.dev) p.runs)) t).2 = a.foldl (fun m p=>AL.set m (w,p.dev) p.runs) t.2 ∧ ((a.foldl (fun t p=>(false,AL.set t.2 (w,p.dev) p.runs)) t).1 = true → (a.foldl (fun t p=>(false,AL.set t.2 (w,p.dev) p.runs)) t).2 = []):=by
  intro a
  induction a with
  | nil=>intro t ht;exact ⟨rfl,ht⟩
  | cons p r ih=>intro t _;exact ih (false,AL.set t.2 (w,p.dev) p.runs) fun h=>by cases h
 obtain ⟨f1,f2⟩:=hf (C.opC (· || ·) (getW x w) c) (nl,m) hR.nil;refine ⟨_,_,rfl,?_⟩;obtain ⟨d1,d2⟩:=mem_sets w (C.opC (· || ·) (getW x w) c) m hj.ord hR.nd;obtain ⟨r0,hr0,e0⟩:=isW_iff.1 hw;have hg:getW x w = r0.c:=by rw [← e0];exact getW_mem hR.srt hr0
 have hdev:∀ p ∈ r0.c,∃ q ∈ C.opC (· || ·) (getW x w) c,q.dev = p.dev:=fun p hp=>by
  obtain ⟨q,hq⟩:=part_has (hR.can r0 hr0) hp;exact has_dev (k:=p.dev) (n:=q) (by rw [C.has_opC rfl,hg,hq];rfl)
 have hmem:∀ r',r' ∈ hearR x w c ↔ (r' ∈ x ∧ r'.who ≠ w) ∨ r' = ⟨w,C.opC (· || ·) (getW x w) c⟩:=fun r'=>by
  unfold hearR;rw [List.mem_map]
  constructor
  ·rintro ⟨r,hr,rfl⟩
   by_cases e:r.who = w
   ·rw [if_pos e,← e,getW_mem hR.srt hr];exact .inr rfl
   ·rw [if_neg e];exact .inl ⟨hr,e⟩
  ·rintro (⟨h1,h2⟩ | rfl)
   ·exact ⟨r',h1,if_neg h2⟩
   ·exact ⟨r0,hr0,by rw [if_pos e0,hg,e0]⟩
 refine ⟨by rw [f1];exact d1,fun w' k l=>?_,?_,fun r hr=>?_,fun r hr=>?_,by unfold hearR;rw [List.length_map];exact hR.len,fun h=>f2 h⟩
 ·show ((w',k),l) ∈ ((C.opC (· || ·) (getW x w) c).foldl (fun t p=>(false,AL.set t.2 (w,p.dev) p.runs)) (nl,m)).2 ↔ _;rw [f1,d2,hR.mem]
  constructor
  ·rintro (⟨e,h⟩ | ⟨g3,r,hr,e,h⟩)
   ·exact ⟨_,(hmem _).2 (.inr rfl),e.symm,.inr h⟩
   ·by_cases e2:w' = w
    ·have:r = r0:=srt_one hR.srt hr hr0 (by rw [e,e2,e0]);subst this;rcases h with ⟨h1,h2⟩ | h
     ·exact ⟨_,(hmem _).2 (.inr rfl),e2.symm,.inl ⟨h1,h2⟩⟩
     ·obtain ⟨q,hq,hqd⟩:=hdev _ h;exact absurd ⟨e2,q,hq,hqd⟩ g3
    ·exact ⟨r,(hmem _).2 (.inl ⟨hr,fun e3=>e2 (e.symm.trans e3)⟩),e,h⟩
  ·rintro ⟨r,hr,e,h⟩;rcases (hmem r).1 hr with ⟨h1,h2⟩ | h1
   ·exact .inr ⟨fun e2=>h2 (e.trans e2.1),r,h1,e,h⟩
   ·rw [h1] at e h;rcases h with ⟨h2,h3⟩ | h
    ·refine .inr ⟨?_,r0,hr0,by rw [e0];exact e,.inl ⟨h2,h3⟩⟩;rintro ⟨_,q,hq,e2⟩;have:=(hj.nf q hq).1;omega
    ·exact .inl ⟨e.symm,h⟩
 ·unfold hearR Srt;rw [List.pairwise_map];exact hR.srt.imp fun {a b} h=>by
   have e1:∀ r:R25Row,(if r.who = w then ⟨r.who,C.opC (· || ·) r.c c⟩ else r:R25Row).who = r.who:=fun r=>by split <;> rfl
   rw [e1,e1];exact h
 ·rcases (hmem r).1 hr with ⟨h1,_⟩ | h1
  ·exact hR.can r h1
  ·rw [h1];exact hj
 ·rcases (hmem r).1 hr with ⟨h1,_⟩ | h1
  ·have:=hR.tot r h1;omega
  ·rw [h1];show C.totC (C.opC (· || ·) (getW x w) c) ≤ _;omega
end


theorem all_zip {α:Type} (l:List α) (p:α → Bool):(l.zipIdx.all fun y=>p y.1) = l.all p:=by
 have h:∀ k:Nat,((l.zipIdx k).all fun y=>p y.1) = l.all p:=by
  induction l with
  | nil=>intro k;rfl
  | cons a r ih=>intro k;rw [List.zipIdx_cons,List.all_cons,List.all_cons,ih]
 exact h 0
def memF (e:(Int × Int) × List TRun):Option Int:=if e.1.2 = 0 then some e.1.1 else none
theorem mem_loop (m:Mx) (hl:m.length ≤ 1000000000000) {Q:List Int → Prop} (hQ:∀ c,c.Perm (m.filterMap memF) → Q c):(loop (ack_Matrix_Members_o_l0 m) ([],([]:List Int))).wp Q:=by
 refine M.loopM m (fun L (t:List Int)=>(L,t)) (fun t e=>cond (decide (e.1.2 = 0)) (need ((t.length + 1) * 2 ≤ 140737488355328) (pure (t ++ [e.1.1]))) (pure t)) (fun t=>pure t)
  (fun l t=>t = l.filterMap memF) Q (fun L t hL=>?_) (fun l t y ht hlen hy=>?_) (fun l t hp ht=>?_) [] rfl
 ·show need _ ((nxt _ _).bind _) = need _ ((nxt _ _).bind _);refine congrArg (fun k=>need _ ((nxt _ _).bind k)) (funext fun o=>?_)
  cases o with
  | none=>rfl
  | some i=>
   refine congrArg (fun k=>(idx m (Int.ofNat i)).bind k) (funext fun y=>?_);show cond _ _ _ = M.bind (cond _ _ _) _;rw [bind_cond];rfl
 ·by_cases h:y.1.2 = 0
  ·refine ⟨t ++ [y.1.1],?_,?_⟩
   ·have hb:t.length ≤ l.length:=by rw [ht];exact List.length_filterMap_le _ _
    rw [decide_eq_true h,cond_true,need_true (by omega)]
   ·rw [ht,List.filterMap_append];simp [memF,h]
  ·refine ⟨t,by rw [decide_eq_false h,cond_false],?_⟩;rw [ht,List.filterMap_append];simp [memF,h]
 ·refine hQ t ?_;rw [ht];exact hp.filterMap _
def withinC (a b:List TPart):Bool:=decide (C.opC (fun x y=>x && !y) a b = [])
def frontX (x:List R25Row) (c:List TPart):List TPart:=(x.map (·.c)).foldl (C.opC (· && ·)) (C.normC c)
theorem has_front (x:List R25Row) (c:List TPart) (k q:Int):C.hasC (frontX x c) k q = (C.hasC c k q && x.all fun r=>C.hasC r.c k q):=by
 have h:∀ (l:List (List TPart)) (t:List TPart),C.hasC (l.foldl (C.opC (· && ·)) t) k q = (C.hasC t k q && l.all fun r=>C.hasC r k q):=by
  intro l
  induction l with
  | nil=>intro t;simp
  | cons a r ih=>intro t;rw [List.foldl_cons,ih,C.has_opC rfl,List.all_cons,Bool.and_assoc]
 unfold frontX;rw [h,C.has_normC,List.all_map];rfl
theorem front_ok {x:List R25Row} {c:List TPart} {B:Nat} (hx:∀ r ∈ x,C.totC r.c ≤ B):C.Canon (frontX x c) ∧ C.totC (frontX x c) ≤ 2 * C.totC c + x.length * B:=by
 have h:∀ (l:List R25Row) (t:List TPart) (T:Nat),(∀ r ∈ l,C.totC r.c ≤ B) → C.Canon t → C.totC t ≤ T → C.Canon ((l.map (·.c)).foldl (C.opC (· && ·)) t) ∧ C.totC ((l.map (·.c)).foldl (C.opC (· && ·)) t) ≤ T + l.length * B:=by
  intro l
  induction l with
  | nil=>intro t T _ h1 h2;exact ⟨h1,by simpa using h2⟩
  | cons a r ih=>
   intro t T hl h1 h2;have h3:=tot_op mon_and t a.c;have h4:=hl a List.mem_cons_self;obtain ⟨g1,g2⟩:=ih (C.opC (· && ·) t a.c) (T + B) (fun r hr=>hl r (List.mem_cons_of_mem _ hr)) (C.canon_op rfl _ _) (by omega);refine ⟨g1,Nat.le_trans g2 ?_⟩;rw [List.length_cons,Nat.succ_mul];omega
 exact h x _ _ hx (C.canon_norm c) (C.tot_normC c)
def belowX (x y:List R25Row):Bool:=x.all fun r=>isW y r.who && withinC r.c (getW y r.who)
section
variable {B n:Nat} {nl:Bool} {m:Mx} {x:List R25Row} (hR:Rep B n nl m x)
include hR
theorem Rep.members (hS:n ≤ 49 ∧ B ≤ 100000000):ack_Matrix_Members_o nl m = pure (x.map (·.who)):=by
 have hnd:((x.map (·.who))).Pairwise (· < ·):=by rw [List.pairwise_map];exact hR.srt
 have hmx:(m.filterMap memF).Perm (x.map (·.who)):=by
  refine (List.perm_ext_iff_of_nodup ?_ (C.sorted_nodup hnd)).2 fun w=>?_
  ·have h1:m.Pairwise fun a b=>a.1 ≠ b.1:=by
    have:=hR.nd;rw [List.Nodup,List.pairwise_map] at this;exact this
   refine List.Pairwise.filterMap memF (fun a b hab p hp q hq=>?_) h1;unfold memF at hp hq
   split at hp
   ·split at hq
    ·rename_i e1 e2
     cases hp;cases hq
     intro e;exact hab (Prod.ext e (e1.trans e2.symm))
    ·cases hq
   ·cases hp
  ·rw [List.mem_filterMap,List.mem_map]
   constructor
   ·rintro ⟨⟨⟨a,k⟩,l⟩,he,h⟩;unfold memF at h
    split at h
    ·cases h
     obtain ⟨r,hr,e,_⟩:=(hR.mem _ _ _).1 he;exact ⟨r,hr,e⟩
    ·cases h
   ·rintro ⟨r,hr,rfl⟩;exact ⟨((r.who,0),[]),(hR.mem _ _ _).2 ⟨r,hr,rfl,.inl ⟨rfl,rfl⟩⟩,rfl⟩
 refine eq_pure ?_;unfold ack_Matrix_Members_o;refine mem_loop m (Nat.le_trans hR.mlen ?_) fun c hc=>?_
 ·calc n * (B + 1) ≤ 1000 * (B + 1):=Nat.mul_le_mul_right _ (by omega)
   _ ≤ 1000000000000:=by omega
 ·have h1:=hc.trans hmx;have hl:c.length < 50:=by rw [h1.length_eq,List.length_map];have:=hR.len;omega
  obtain ⟨l',e1,e2,e3⟩:=I.sort_eq c hl;show ((det (slices_Sort_sl_uint16_uint16_o c)).bind _).wp _;rw [e1,det_pure,pure_bind,need_true e2.length_eq];show l' = _;exact (e2.trans h1).eq_of_pairwise (le:=(· ≤ ·)) (fun a b _ _ h1 h2=>by omega) e3 (hnd.imp fun {a b} h=>by omega)
theorem Rep.front (hS:n ≤ 49 ∧ B ≤ 1000000) {c:List TPart} (hc:c.length ≤ 1000000 ∧ C.totC c ≤ 1000000):ack_Matrix_Front_o c nl m = pure (frontX x c):=by
 unfold ack_Matrix_Front_o;rw [C.Norm_eq c ⟨by omega,by omega⟩,det_pure,pure_bind,hR.members ⟨hS.1,by omega⟩,det_pure,pure_bind];have hxl:=hR.len;have:=M.loopL (body:=ack_Matrix_Front_o_l0 (x.map (·.who)) nl m) x (fun i (t:List TPart)=>(t,(i:Int))) (fun t r=>C.opC (· && ·) t r.c) (fun t=>pure t) (fun i t=>C.Canon t ∧ C.totC t ≤ 2000000 + i * 1000000) (fun i r t hr hi hI=>by
  obtain ⟨h1,h2⟩:=hI;have hrm:=List.mem_of_getElem? hr;have h3:=hR.can r hrm;have h4:=hR.tot r hrm;have h5:=tot_op mon_and t r.c;have l1:=canon_len fun p hp=>(h1.nf p hp).2.1
  have l2:=canon_len fun p hp=>(h3.nf p hp).2.1
  refine ⟨?_,C.canon_op rfl _ _,by rw [Nat.succ_mul];omega⟩;show cond (decide ((i:Int) < ((x.map (·.who)).length:Int))) _ _ = _;rw [decide_eq_true (by rw [List.length_map];omega),cond_true,idx_nat (y:=r.who) (by rw [List.getElem?_map,hr];rfl),pure_bind,hR.Row ⟨by omega,by omega⟩,det_pure,pure_bind,getW_mem hR.srt hrm,C.Meet_eq _ _ ⟨by omega,by omega⟩ ⟨by omega,by omega⟩,det_pure,pure_bind,wSucc (by omega)]) (fun t _=>by
  show cond (decide ((x.length:Int) < ((x.map (·.who)).length:Int))) _ _ = _;rw [decide_eq_false (by rw [List.length_map];omega)];rfl) (C.normC c) ⟨C.canon_norm c,by have:=C.tot_normC c;omega⟩
 rw [show (C.normC c,(0:Int)) = (C.normC c,((0:Nat):Int)) from rfl,this,pure_bind];unfold frontX;rw [List.foldl_map]
theorem Rep.below (hS:n ≤ 49 ∧ B ≤ 1000000) {B' n':Nat} {nl':Bool} {m':Mx} {y:List R25Row} (hR':Rep B' n' nl' m' y) (hS':n' ≤ 49 ∧ B' ≤ 1000000):ack_Below_o nl m nl' m' = pure (belowX x y):=by
 unfold ack_Below_o;rw [hR.members ⟨hS.1,by omega⟩,det_pure,pure_bind];have hxl:=hR.len;have:=M.loopAll (body:=ack_Below_o_l0 (x.map (·.who)) nl' m' nl m) x (fun i=>(i:Int)) (fun _ r=>isW y r.who && withinC r.c (getW y r.who)) (Ex.brk ()) (Ex.ret false) (fun i r hr hi=>by
  have hrm:=List.mem_of_getElem? hr;obtain ⟨g1,g2⟩:=hR'.getC r.who;have h3:=hR.can r hrm;have h4:=hR.tot r hrm;have l1:=canon_len fun p hp=>(g1.nf p hp).2.1
  have l2:=canon_len fun p hp=>(h3.nf p hp).2.1
  show cond (decide ((i:Int) < ((x.map (·.who)).length:Int))) _ _ = _;rw [decide_eq_true (by rw [List.length_map];omega),cond_true,idx_nat (y:=r.who) (by rw [List.getElem?_map,hr];rfl),pure_bind,hR'.is,det_pure,pure_bind]
  cases hw:isW y r.who
  ·rfl
  ·rw [Bool.not_true,cond_false,hR.Row ⟨by omega,by omega⟩,det_pure,pure_bind,hR'.Row ⟨by omega,by omega⟩,det_pure,pure_bind,getW_mem hR.srt hrm,C.Within_eq _ _ ⟨by omega,by omega⟩ ⟨by omega,by omega⟩,det_pure,pure_bind,pure_bind,wSucc (by omega)];unfold withinC
   cases decide (C.opC (fun x y=>x && !y) r.c (getW y r.who) = []) <;> rfl) (by
  show cond (decide ((x.length:Int) < ((x.map (·.who)).length:Int))) _ _ = _;rw [decide_eq_false (by rw [List.length_map];omega)];rfl)
 rw [show (0:Int) = ((0:Nat):Int) from rfl,this,pure_bind,all_zip x fun r=>isW y r.who && withinC r.c (getW y r.who)];unfold belowX
 cases x.all fun r=>isW y r.who && withinC r.c (getW y r.who) <;> rfl
end

theorem works25 : l25_works = pure true:=by
 unfold l25_works;have hd:∀ l:List TDot,l.length ≤ 2 → (C.normC (C.dotsC l)).length ≤ 1000 ∧ C.totC (C.normC (C.dotsC l)) ≤ 1000:=fun l hl=>by
  have h1:=C.len_normC (C.dotsC l);have h2:=C.dots_len l;have h3:=C.tot_normC (C.dotsC l);have h4:=C.dots_tot l;omega
 obtain ⟨b1,m1,e1,r1⟩:=(rep_nil 0 0).join 1;obtain ⟨b2,m2,e2,r2⟩:=r1.join 2;have x2:joinR (joinR [] 1) 2 = [⟨1,[]⟩,⟨2,[]⟩]:=by decide
 rw [x2] at r2;have hA:=hd [⟨5,1⟩,⟨5,2⟩] (by simp);have hB:=hd [⟨5,2⟩] (by simp);obtain ⟨b3,m3,e3,r3⟩:=r2.hear ⟨by omega,by omega⟩ 1 (c:=C.normC (C.dotsC [⟨5,1⟩,⟨5,2⟩])) ⟨by omega,by omega⟩;obtain ⟨b4,m4,e4,r4⟩:=r3.hear ⟨by omega,by omega⟩ 2 (c:=C.normC (C.dotsC [⟨5,2⟩])) ⟨by omega,by omega⟩;have hf:=r4.front ⟨by omega,by omega⟩ (c:=C.normC (C.dotsC [⟨5,1⟩,⟨5,2⟩])) ⟨by omega,by omega⟩;have hfx:frontX (hearR (hearR [⟨1,[]⟩,⟨2,[]⟩] 1 (C.normC (C.dotsC [⟨5,1⟩,⟨5,2⟩]))) 2 (C.normC (C.dotsC [⟨5,2⟩]))) (C.normC (C.dotsC [⟨5,1⟩,⟨5,2⟩])) = C.normC (C.dotsC [⟨5,2⟩]):=by
  refine (front_ok (B:=10000) fun r hr=>r4.tot r hr |> fun h=>by omega).1.ext (C.canon_norm _) fun k q=>?_
  rw [has_front];have hAB:C.hasC (C.dotsC [⟨5,2⟩]) k q = true → C.hasC (C.dotsC [⟨5,1⟩,⟨5,2⟩]) k q = true:=fun h=>by
   obtain ⟨d,hd,h1⟩:=(C.has_dots _ _ _).1 h;exact (C.has_dots _ _ _).2 ⟨d,List.mem_cons_of_mem _ hd,h1⟩
  have e1:hearR (hearR [⟨1,[]⟩,⟨2,[]⟩] 1 (C.normC (C.dotsC [⟨5,1⟩,⟨5,2⟩]))) 2 (C.normC (C.dotsC [⟨5,2⟩])) = [⟨1,C.opC (· || ·) [] (C.normC (C.dotsC [⟨5,1⟩,⟨5,2⟩]))⟩,⟨2,C.opC (· || ·) [] (C.normC (C.dotsC [⟨5,2⟩]))⟩]:=rfl;rw [e1];simp only [List.all_cons,List.all_nil,Bool.and_true,C.has_opC (op:=(· || ·)) rfl,C.hasC_nil,Bool.false_or,C.has_normC]
  cases hb:C.hasC (C.dotsC [⟨5,2⟩]) k q with
  | false=>simp
  | true=>rw [hAB hb];rfl
 have w1:isW ([⟨1,[]⟩,⟨2,[]⟩]:List R25Row) 1 = true:=by decide
 have w2:isW (hearR [⟨1,[]⟩,⟨2,[]⟩] 1 (C.normC (C.dotsC [⟨5,1⟩,⟨5,2⟩]))) 2 = true:=rfl;have d1:(!(decide ((1:Int) = 0) || isW [] 1)) = true:=by decide
 have d2:(!(decide ((2:Int) = 0) || isW (joinR [] 1) 2)) = true:=by decide
 rw [show ack_New_o = pure (true,[]) from rfl,det_pure,pure_bind,e1,det_pure,pure_bind,e2,det_pure,pure_bind,C.rOf_eq _ (by simp),det_pure,pure_bind,e3,det_pure,pure_bind,C.rOf_eq _ (by simp),det_pure,pure_bind,e4,det_pure,pure_bind,d1,d2,w1,w2,if_pos rfl,cond_true,cond_true];simp only [decide_true,cond_true];rw [pure_bind,hf,det_pure,pure_bind,hfx,pure_bind,C.rEq_eq _ _ (by omega) (fun p hp=>by have:=C.run_le p hp;omega),det_pure,pure_bind,decide_eq_true rfl]
 rfl
end Go.Ep.M.J

namespace Go.Ep.M.J
open Go

def fewC (c:List TPart):Bool:=decide (c.length ≤ 30) && c.all fun p=>decide (p.runs.length ≤ 30)
theorem rFew (c:List TPart):r09_Few c = pure (fewC c):=C.rFew_eq c
theorem Rep.ok {B n:Nat} {nl:Bool} {m:Mx} {x:List R25Row} (hR:Rep B n nl m x) (hB:B ≤ 1000000) {r:R25Row} (hr:r ∈ x):C.Ok r.c:=canon_ok (hR.can r hr) (by have:=hR.tot r hr;omega)
theorem front_nil {c:List TPart} (h:C.Sm c):ack_Matrix_Front_nil c = pure (C.normC c):=by
 unfold ack_Matrix_Front_nil;rw [C.Norm_eq c h,det_pure,pure_bind,show ack_Matrix_Members_nil = pure [] from rfl,det_pure,pure_bind,loop_done (r:=C.normC c) rfl]
 rfl
theorem lag_nil (who:Int):ack_Matrix_Lag_nil who [⟨1,1⟩] = pure 1:=by
 unfold ack_Matrix_Lag_nil;have h1:ack_Matrix_Lag_nil_l0 [⟨1,1⟩] ([],0,0) = pure (.next ([],1,1)):=by
  unfold ack_Matrix_Lag_nil_l0;dsimp only;rw [decide_eq_true (show (0:Int) < (([⟨1,1⟩]:List TDot).length:Int) by decide),cond_true,show idx ([⟨1,1⟩]:List TDot) 0 = pure ⟨1,1⟩ from idx_nat (i:=0) rfl,pure_bind,C.Has_eq [] ⟨1,1⟩ C.ok_nil.sm,det_pure,pure_bind,C.hasC_nil]
  rfl
 rw [show ack_Matrix_Row_nil who = pure [] from rfl,det_pure,pure_bind,loop_next h1,loop_done (r:=(1:Int)) rfl]
 rfl
theorem ackNil_eq (who:Int) (c:List TPart) (hw:0 ≤ who) (oc:∀ p ∈ c,0 ≤ p.dev):l25_AckNil who c = pure true:=by
 unfold l25_AckNil;rw [rFew c,det_pure,pure_bind]
 cases fc:fewC c with
 | false=>simp only [Bool.not_false,cond_true,pure_bind,works25,det_pure]
 | true=>
 have hc:=C.few_tot fc;have hcok:=C.ok_few oc hc;have hnok:C.Ok (C.normC c):=canon_ok (C.canon_norm c) (by have:=C.tot_normC c;omega);obtain ⟨b1,m1,e1,r1⟩:=(rep_nil 0 0).join who;obtain ⟨b2,m2,e2,r2⟩:=r1.hear ⟨by omega,by omega⟩ who (c:=c) ⟨by omega,by omega⟩;have e3:=r2.members ⟨by omega,by omega⟩;rw [show ack_Matrix_Leave_nil who = pure false by unfold ack_Matrix_Leave_nil;rw [show ack_Matrix_is_nil who = pure false from rfl,det_pure,pure_bind],show ack_Matrix_Hear_nil who c = pure 6 by unfold ack_Matrix_Hear_nil;rw [show ack_Matrix_is_nil who = pure false from rfl,det_pure,pure_bind],show ack_Matrix_Join_nil who = pure false from rfl,show ack_Matrix_Row_nil who = pure [] from rfl,show ack_Matrix_Members_nil = pure [] from rfl,front_nil hcok.sm,lag_nil,e1];simp only [det_pure,pure_bind,Bool.not_true,cond_false];rw [C.rSame_eq _ _ hnok hcok,C.norm_canon (C.canon_norm c),show ack_Matrix_Copy_o1 = pure () from rfl,e2,decide_eq_true rfl];simp only [det_pure,pure_bind,Bool.not_true,cond_false,List.length_nil,decide_true,e3,works25]
 by_cases h0:who = 0
 ·subst h0
  rfl
 ·have x1:joinR [] who = [⟨who,[]⟩]:=if_neg (by rintro (h | h);exact h0 h;cases h);have x2:isW (joinR [] who) who = true:=by rw [x1];simp [isW]
  have x3:isW [] who = false:=rfl;have x4:((hearR (joinR [] who) who c).map (·.who)).length = 1:=by rw [x1,List.length_map];simp [hearR]
  rw [x2,x3,decide_eq_false h0,decide_eq_true (show 0 < who by omega),if_pos rfl,x4,show min who 1 = 1 by omega]
  rfl
end Go.Ep.M.J

namespace Go.Ep
open Go.RowKit Go.ChangeShapes Go.WideShapes

abbrev All : Nat → Prop:=fun _=>True

mutual
def bulk {H:Type}:DataW H → Nat
 | .lit (.string bytes)=>bytes.length + 1
 | .lit _=>1
 | .nil=>1
 | .ptr d=>bulk d + 1
 | .slice elems spare=>bulkAll elems + bulkAll spare + 1
 | .agg parts=>bulkAll parts + 1
 | .iface _ d=>bulk d + 1
 | .map entries=>bulkEntries entries + 1
 | .held _=>1
def bulkAll {H:Type}:List (DataW H) → Nat
 | []=>0
 | d :: r=>bulk d + bulkAll r
def bulkEntries {H:Type}:List (Lit × DataW H) → Nat
 | []=>0
 | x :: r=>bulkEntry x + bulkEntries r
def bulkEntry {H:Type}:Lit × DataW H → Nat
 | (.string bytes,d)=>bytes.length + bulk d + 1
 | (_,d)=>bulk d + 1
end
theorem one_bulk {H:Type} (d:DataW H):1 ≤ bulk d:=by
 cases d with
 | lit l=>cases l <;> simp [bulk]
 | nil=>simp [bulk]
 | ptr d=>simp [bulk]
 | slice elems spare=>simp [bulk]
 | agg parts=>simp [bulk]
 | iface t d=>simp [bulk]
 | map entries=>simp [bulk]
 | held h=>simp [bulk]
theorem bulkAll_app {H:Type} (l r:List (DataW H)):bulkAll (l ++ r) = bulkAll l + bulkAll r:=by
 induction l with
 | nil=>simp [bulkAll]
 | cons x l ih=>simp only [List.cons_append,bulkAll,ih];omega
def szL {α:Type} (sz:α → Nat):List α → Nat
 | []=>0
 | a :: r=>sz a + szL sz r
theorem szL_app {α:Type} (sz:α → Nat) (l r:List α):szL sz (l ++ r) = szL sz l + szL sz r:=by
 induction l with
 | nil=>simp [szL]
 | cons x l ih=>simp only [List.cons_append,szL,ih];omega
structure Opn (P:Program) (t:TypeId) (k:Nat) {α:Type} (enc:α → List DV) (ok:α → Prop) (sz:α → Nat):Prop where
 cells:P.cellsOf t = k
 op:∀ {H:Type} {en:TypeId × Value → H} {w:World} {fuel:Nat} {cs:List Value} {x:DataW H × List MemPlace},DataW.trod en P w 0 (fun _=>true) true fuel t cs = some x →
  ∃ a,ok a ∧ cs.length = k ∧ (enc a).length = k ∧ (∀ (j:Nat) (y:DV) (u:Value),(enc a)[j]? = some y → cs[j]? = some u → DRd w All y u) ∧ sz a ≤ bulk x.1

section
variable {P:Program} {t:TypeId}

theorem Opn.map {k:Nat} {α β:Type} {enc:α → List DV} {enc':β → List DV} {ok:α → Prop} {ok':β → Prop} {sz:α → Nat} {sz':β → Nat} (h:Opn P t k enc ok sz) (f:α → β) (he:∀ a,ok a → enc' (f a) = enc a) (ho:∀ a,ok a → ok' (f a)) (hz:∀ a,sz' (f a) ≤ sz a):Opn P t k enc' ok' sz':=
 ⟨h.cells,fun hx=>let ⟨a,h1,h2,h3,h4,h5⟩:=h.op hx;⟨f a,ho a h1,h2,by rw [he a h1];exact h3,by rw [he a h1];exact h4,Nat.le_trans (hz a) h5⟩⟩

theorem one_get {w:World} {y:DV} {u:Value} (h:DRd w All y u):∀ (j:Nat) (y':DV) (u':Value),[y][j]? = some y' → [u][j]? = some u' → DRd w All y' u':=by
 intro j y' u' h1 h2
 cases j with
 | zero=>simp at h1 h2;subst h1;subst h2;exact h
 | succ j=>simp at h1

def okK (k:IntKind) (n:Int):Prop:=(Lit.int k n).wf = true
theorem Opn.int {k:IntKind} (hu:P.underlying t = some (.int k)) (hc:P.cellsOf t = 1):Opn P t 1 (eK k) (okK k) (fun _=>1):=by
 refine ⟨hc,fun {H en w fuel cs x} h=>?_⟩
 cases fuel with
 | zero=>simp [DataW.trod] at h
 | succ fuel=>
  unfold DataW.trod at h;rw [hu] at h
  split at h <;> simp_all
  case h_2 n _=>
   obtain ⟨⟨h1,h2⟩,_⟩:=h;subst h1;refine ⟨n,h2,rfl,?_,one_bulk _⟩;intro j y u h1 h3;exact one_get (.v _ rfl) j y u h1 h3
theorem okU16 {n:Int} (h:okK .u16 n):0 ≤ n ∧ n < 65536:=by
 simp [okK,Lit.wf,IntKind.min,IntKind.max,IntKind.signed,IntKind.bits] at h;omega
theorem Opn.slice {e:TypeId} {k:Nat} {α:Type} {enc:α → List DV} {ok:α → Prop} {sz:α → Nat} (h:Opn P e k enc ok sz) (hu:P.underlying t = some (.slice e)) (hc:P.cellsOf t = 1) (hk:0 < k) :
  Opn P t 1 (eL enc) (fun l=>l.length ≤ 9223372036854775807 ∧ ∀ a ∈ l,ok a) (fun l=>szL sz l + 1):=by
 refine ⟨hc,fun {H en w fuel cs x} hx=>?_⟩;rcases Deep.open_slice hu hx with ⟨rfl,_⟩ | ⟨a,len,cap,m,n,D,Pl,rfl,_,hl,hm,hmm,hxD,hel⟩
 ·exact ⟨[],⟨Nat.zero_le _,by simp⟩,rfl,rfl,one_get (.nil none 0 (Nat.zero_le _) (fun _=>rfl)),one_bulk _⟩
 simp only [if_true] at hmm;subst hmm;rw [h.cells] at hel;have hcut:∀ n0,n0 ≤ len → ∃ l:List α,l.length = n0 ∧ (∀ a ∈ l,ok a) ∧ szL sz l ≤ bulkAll ((List.range n0).map D) ∧ ∀ (i:Nat) (b:α),l[i]? = some b → (enc b).length = k ∧ ∀ (j:Nat) (y:DV),(enc b)[j]? = some y → ∃ u,w.cell? (a.add (i * k + j)) = some u ∧ DRd w All y u:=by
  intro n0
  induction n0 with
  | zero=>intro _;exact ⟨[],rfl,by simp,by simp [szL],by simp⟩
  | succ n0 ih=>
   intro hn;obtain ⟨l,h1,h2,hz,h3⟩:=ih (by omega);obtain ⟨cs',hc',ht'⟩:=hel n0 (by omega);obtain ⟨b,hb1,hb2,hb3,hb4,hb5⟩:=h.op ht';obtain ⟨_,_,hcell⟩:=World.cells?_some hc';refine ⟨l ++ [b],by simp [h1],?_,by rw [szL_app,List.range_succ,List.map_append,bulkAll_app];simp only [szL,List.map_cons,List.map_nil,bulkAll];simp only at hb5;omega,?_⟩
   ·intro a ha;rcases List.mem_append.1 ha with ha | ha
    ·exact h2 a ha
    ·simp at ha;subst ha;exact hb1
   ·intro i b' hi;rw [List.getElem?_append] at hi
    split at hi
    ·exact h3 i b' hi
    ·rename_i hge
     have hi0:i = n0:=by
      have:i - l.length < 1:=by simpa using (List.getElem?_eq_some_iff.1 hi).1
      omega
     subst hi0;simp [h1] at hi;subst hi;refine ⟨hb3,fun j y hy=>?_⟩;have hj:j < k:=by rw [← hb3];exact (List.getElem?_eq_some_iff.1 hy).1
     have hcj:=hcell j hj;rw [Deep.add_add] at hcj;have hu':cs'[j]? = some (cs'[j]'(by omega)):=List.getElem?_eq_getElem (by omega);exact ⟨_,by rw [hcj,hu'],hb4 j y _ hy hu'⟩
 obtain ⟨l,h1,h2,hz,h3⟩:=hcut len (Nat.le_refl _);refine ⟨l,⟨by unfold maxLen at hm;omega,h2⟩,rfl,rfl,one_get ?_,?_⟩
 rotate_left
 ·rw [hxD];simp only [bulk];omega
 by_cases h0:len = 0
 ·have:l = []:=List.eq_nil_of_length_eq_zero (by omega);subst this;subst h0;exact .nil _ _ hm (fun e=>by cases e)
 ·-- the first cell tells that the address is a plain one
  have hl0:0 < l.length:=by omega
  obtain ⟨hk0,hc0⟩:=h3 0 _ (List.getElem?_eq_getElem hl0);obtain ⟨u0,hu0,_⟩:=hc0 0 _ (List.getElem?_eq_getElem (by omega:0 < (enc l[0]).length));have hspot:a.spot = none:=by simpa [Addr.add] using World.cell?_spot hu0
  obtain ⟨b,off,spot⟩:=a;simp only at hspot;subst hspot;have hb:b < w.heap.size:=by
   rw [Addr.add_lit] at hu0;unfold World.cell? at hu0
   cases hh:w.heap[b]? with
   | none=>simp [hh] at hu0
   | some o=>exact (Array.getElem?_eq_some_iff.1 hh).1
  have hlen:(l.map enc).length = len:=by simp [h1]
  rw [← hlen];refine .sl _ b off m k (fun i j=>(w.cell? ⟨b,off + (i * k + j),none⟩).getD undef) (by omega) hm trivial hb ?_ ?_ ?_
  ·intro i cs hi;rw [List.getElem?_map] at hi
   cases hx:l[i]? with
   | none=>simp [hx] at hi
   | some y=>simp [hx] at hi;subst hi;exact (h3 i y hx).1
  ·intro i j hi hj;have hil:i < l.length:=by simpa using hi
   obtain ⟨e1,e2⟩:=h3 i _ (List.getElem?_eq_getElem hil);obtain ⟨u,hu,_⟩:=e2 j _ (List.getElem?_eq_getElem (by omega:j < (enc l[i]).length));rw [Addr.add_lit] at hu;simp [hu]
  ·intro i cs j x hi hx;rw [List.getElem?_map] at hi
   cases hy:l[i]? with
   | none=>simp [hy] at hi
   | some y=>
    simp [hy] at hi;subst hi;obtain ⟨u,hu,hd⟩:=(h3 i y hy).2 j x hx;rw [Addr.add_lit] at hu;simpa [hu] using hd

structure OpnF (P:Program) (fs:List Field) (off k:Nat) {α:Type} (enc:α → List DV) (ok:α → Prop) (sz:α → Nat):Prop where
 op:∀ {H:Type} {en:TypeId × Value → H} {w:World} {n:Nat} {cs:List Value} {xs:List (DataW H × List MemPlace)},xs.length = fs.length →
  (∀ (i:Nat) (f:Field),fs[i]? = some f → DataW.trod en P w 0 (fun _=>true) true n f.type ((cs.drop f.offset).take (P.cellsOf f.type)) = xs[i]?) →
  ∃ a,ok a ∧ (enc a).length = k ∧ (∀ (j:Nat) (y:DV) (u:Value),(enc a)[j]? = some y → cs[off + j]? = some u → DRd w All y u) ∧ sz a ≤ bulkAll (xs.map (·.1))

theorem OpnF.nil (off:Nat):OpnF P [] off 0 (fun _:Unit=>[]) (fun _=>True) (fun _=>0):=⟨fun _ _=>⟨(),trivial,rfl,by simp,Nat.zero_le _⟩⟩
theorem OpnF.cons {f:Field} {fs:List Field} {off k1 k2:Nat} {α β:Type} {e1:α → List DV} {o1:α → Prop} {e2:β → List DV} {o2:β → Prop} {z1:α → Nat} {z2:β → Nat} (h1:Opn P f.type k1 e1 o1 z1) (ho:f.offset = off) (h2:OpnF P fs (off + k1) k2 e2 o2 z2) :
  OpnF P (f :: fs) off (k1 + k2) (fun p:α × β=>e1 p.1 ++ e2 p.2) (fun p=>o1 p.1 ∧ o2 p.2) (fun p=>z1 p.1 + z2 p.2):=by
 refine ⟨fun {H en w n cs xs} hlen hx=>?_⟩
 cases xs with
 | nil=>simp at hlen
 | cons x xs=>
  have hx0:=hx 0 f rfl;simp only [List.getElem?_cons_zero] at hx0;obtain ⟨a,ha1,ha2,ha3,ha4,ha5⟩:=h1.op hx0;obtain ⟨b,hb1,hb2,hb3,hb4⟩:=h2.op (xs:=xs) (by simpa using hlen) (fun i f' hf=>by have:=hx (i + 1) f' (by simpa using hf);simpa using this);refine ⟨(a,b),⟨ha1,hb1⟩,by simp [ha3,hb2],?_,by simp only [List.map_cons,bulkAll];omega⟩;intro j y u hy hu;simp only [List.getElem?_append] at hy
  by_cases hj:j < k1
  ·rw [if_pos (by omega)] at hy;refine ha4 j y u hy ?_;rw [List.getElem?_take,h1.cells,if_pos hj,List.getElem?_drop,ho];exact hu
  ·rw [if_neg (by omega),ha3] at hy;refine hb3 (j - k1) y u hy ?_;rw [← hu]
   congr 1
   omega
theorem Opn.struct {fs:List Field} {k:Nat} {α:Type} {enc:α → List DV} {ok:α → Prop} {sz:α → Nat} (hu:P.underlying t = some (.struct fs.toArray)) (hc:P.cellsOf t = k) (h:OpnF P fs 0 k enc ok sz):Opn P t k enc ok (fun a=>sz a + 1):=by
 refine ⟨hc,fun {H en w fuel cs x} hx=>?_⟩;obtain ⟨xs,n,_,hxe,hlen,hxl,hf⟩:=DataW.trod_struct hu hx;obtain ⟨a,h1,h2,h3,h4⟩:=h.op (cs:=cs) (xs:=xs) (by simpa using hxl) (fun i f hi=>hf i f (by simpa using hi));exact ⟨a,h1,by rw [hlen,hc],h2,fun j y u hy hu=>h3 j y u hy (by simpa using hu),by rw [hxe];simp only [bulk];omega⟩

theorem Opn.arg {H:Type} {en:TypeId × Value → H} {w:World} {v:Value} {d:DataW H} {ps:List MemPlace} {α:Type} {enc:α → DV} {ok:α → Prop} {sz:α → Nat} (h:Opn P t 1 (fun a=>[enc a]) ok sz)
  (hx:DataW.Trod en P w 0 (fun _=>true) true t v d ps) (h1:v.oneCell' = true):∃ a,ok a ∧ Rd w g0 All (.d (enc a)) v ∧ sz a ≤ bulk d:=by
 obtain ⟨fuel,hf⟩:=hx;obtain ⟨a,ha,_,_,hr,hz⟩:=h.op hf;have hcs:v.cells.toList = [v]:=by cases v <;> first | rfl | (simp [Value.oneCell'] at h1;done)
 exact ⟨a,ha,.d (hr 0 _ v rfl (by rw [hcs];rfl)),hz⟩
theorem trodAll_below {H:Type} {en:TypeId × Value → H} (hl:laidOutB P = true) {W W':World} (hb:Below W.heap.size W W'):∀ {ts:List TypeId} {vs:List Value} {ds:List (DataW H)} {ps:List MemPlace},
  (∀ t ∈ ts,P.readableRec t = true ∧ t < P.types.size) → DataW.TrodAll en P W 0 (fun _=>true) true ts vs ds ps → (∀ x ∈ ps,x.block < W.heap.size) → DataW.TrodAll en P W' 0 (fun b=>decide (b < W.heap.size)) true ts vs ds ps
 | [],[],[],ps,_,h,_=>h
 | t :: ts,v :: vs,d :: ds,ps,hr,h,hlt=>by
  obtain ⟨p,q,h1,h2,rfl⟩:=h;have hrt:=hr t (by simp);exact ⟨p,q,Below.trod hl hrt.1 hrt.2 h1 hb (fun x hx=>hlt x (List.mem_append.2 (.inl hx))),trodAll_below hl hb (fun t ht=>hr t (by simp [ht])) h2 (fun x hx=>hlt x (List.mem_append.2 (.inr hx))),rfl⟩
 | [],[],_ :: _,_,_,h,_=>h.elim
 | [],_ :: _,_,_,_,h,_=>h.elim
 | _ :: _,[],_,_,_,h,_=>h.elim
 | _ :: _,_ :: _,[],_,_,h,_=>h.elim
theorem trodAll_len {H:Type} {en:TypeId × Value → H} {w:World} {base:Nat} {sp:Nat → Bool} {hd:Bool}:∀ {ts:List TypeId} {vs:List Value} {ds:List (DataW H)} {ps:List MemPlace},DataW.TrodAll en P w base sp hd ts vs ds ps → ds.length = ts.length
 | [],[],[],_,_=>rfl
 | _ :: _,_ :: _,_ :: _,_,h=>by
  obtain ⟨_,_,_,h2,_⟩:=h;simp [trodAll_len h2]
 | [],[],_ :: _,_,h=>h.elim
 | [],_ :: _,_,_,h=>h.elim
 | _ :: _,[],_,_,h=>h.elim
 | _ :: _,_ :: _,[],_,h=>h.elim

theorem post_true {H:Type} {en:TypeId × Value → H} {fn:Func} {s:ChangeSpec} {tb:TypeId} {W W':World} {args:Array Value} {ds gs:List (DataW H)} {before:List MemPlace} (hl:laidOutB P = true)
  (hW:DataW.Whole en P fn.params.toList s.vars false W args.toList ds gs before) (hv:s.vars = []) (hs:∀ ds:List (DataW H),ds.length = fn.params.size → (s.fn H ds).results = [.lit (.bool true)] ∧ (s.fn H ds).args = ds ∧ (s.fn H ds).vars = [])
  (hres:fn.resultTypes = #[tb]) (htb:P.underlying tb = some .bool) (hr:∀ t ∈ fn.params.toList,P.readableRec t = true ∧ t < P.types.size) (hb:Below W.heap.size W W') :
  s.post en P fn false true false false W args (.bool true) W':=by
 have hW':=hW;obtain ⟨p,q,hA,hV,hpq,hfz,hnd⟩:=hW;rw [hv] at hV;obtain ⟨rfl,rfl⟩:=trodVars_none hV;simp only [List.append_nil] at hpq;subst hpq;have hlt:∀ x ∈ before,x.block < W.heap.size:=fun x hx=>by simpa using hW'.lt x hx
 have hlen:ds.length = fn.params.size:=by simpa using trodAll_len hA
 obtain ⟨e1,e2,e3⟩:=hs (ds ++ []) (by simpa using hlen);refine ⟨ds,[],before,[],before,[],hW',?_,?_,?_,hb.frame _,fun h=>by cases h⟩
 ·rw [e1,hres];exact trodAll_mk1 (shut_bool htb true)
 ·rw [e2,List.append_nil];exact trodAll_below hl hb hr hA hlt
 ·rw [e3,hv];rfl
end
end Go.Ep

namespace Go.Ep
set_option linter.unusedVariables false

def TRun.ok (x:TRun):Prop:=okK .u64 x.lo ∧ okK .u64 x.hi
def TRun.sz (x:TRun):Nat:=(1 + (1 + 0)) + 1
def TPart.ok (x:TPart):Prop:=okK .u16 x.dev ∧ (List.length x.runs ≤ 9223372036854775807 ∧ ∀ a ∈ x.runs,TRun.ok a)
def TPart.sz (x:TPart):Nat:=(1 + ((szL TRun.sz x.runs + 1) + 0)) + 1
def L25Act.ok (x:L25Act):Prop:=okK .u8 x.kind ∧ okK .u16 x.who ∧ (List.length x.c ≤ 9223372036854775807 ∧ ∀ a ∈ x.c,TPart.ok a)
def L25Act.sz (x:L25Act):Nat:=(1 + (1 + ((szL TPart.sz x.c + 1) + 0))) + 1
def TDot.ok (x:TDot):Prop:=okK .u16 x.dev ∧ okK .u64 x.n
def TDot.sz (x:TDot):Nat:=(1 + (1 + 0)) + 1
end Go.Ep
namespace Go.Proofs
open Go.Ep
set_option maxRecDepth 100000
theorem opnTRun : Opn Tryz.prog 72 2 TRun.e TRun.ok TRun.sz:=(Opn.struct Tryz.underlying72 (by kernel_rfl) (OpnF.cons (Opn.int Tryz.underlying56 (by kernel_rfl)) rfl (OpnF.cons (Opn.int Tryz.underlying56 (by kernel_rfl)) rfl (OpnF.nil _)))).map (fun p=>⟨p.1,p.2.1⟩) (fun _ _=>rfl) (fun p h=>⟨h.1,h.2.1⟩) (fun _=>Nat.le_refl _)
theorem opnTPart : Opn Tryz.prog 65 2 TPart.e TPart.ok TPart.sz:=(Opn.struct Tryz.underlying65 (by kernel_rfl) (OpnF.cons (Opn.int Tryz.underlying31 (by kernel_rfl)) rfl (OpnF.cons (opnTRun.slice Tryz.underlying63 (by kernel_rfl) (by decide)) rfl (OpnF.nil _)))).map (fun p=>⟨p.1,p.2.1⟩) (fun _ _=>rfl) (fun p h=>⟨h.1,h.2.1⟩) (fun _=>Nat.le_refl _)
end Go.Proofs

