/- Texts that the walks and laws lean on, side by side. -/
import Derived.Sort.LotA
import Derived.Sort.LotB
import Derived.Sort.LotC
import Derived.Sort.LotD3
import Derived.Sort.LotD4
import Derived.Test.YthmblgneimcgpaaGreatABe3
import Derived.Test.YthmblgneimcgpaaGreatABe9
import Derived.Test.YthmblgneimcgpaaGreatABe10
set_option linter.unusedVariables false
set_option linter.unusedSimpArgs false
namespace Go.Ep.M.I
open Go

abbrev lI : Int → Int → Bool:=Go.Sort.ltInt
theorem less_eq (x y:Int):cmp_Less_uint16 x y = pure (lI x y):=by
 unfold cmp_Less_uint16 cmp_isNaN_uint16 lI Go.Sort.ltInt;simp only [decide_true,Bool.not_true,det_pure,pure_bind,cond_false]
section
variable {d:Array Int}
theorem rd {i:Nat} (h:i < d.size):idx d.toList (i:Int) = pure d[i]!:=idx_nat (by rw [getElem!_pos d i h];simp [h])
theorem rdI {β:Type} {l:List Int} {i:Nat} (h:i < l.length) (K:M β):((idx l (i:Int)).bind fun _=>K) = K:=by
 rw [idx_nat (List.getElem?_eq_getElem h),pure_bind]
theorem setset (i j:Nat):List.set (List.set d.toList (Int.toNat (i:Int)) d[j]!) (Int.toNat (j:Int)) d[i]! = (Go.Sort.swp d i j).toList:=by
 simp [Go.Sort.swp]
end
theorem wS {i:Nat} (h:i ≤ 5000):IntKind.i64.wrap ((i:Int) + 1) = ((i + 1:Nat):Int):=wSucc (by omega)
theorem wP {i:Nat} (h:i ≤ 5000):IntKind.i64.wrap (((i + 1:Nat):Int) - 1) = (i:Int):=by rw [wI64 (by omega) (by omega)];omega
theorem wP' {i:Nat} (h0:1 ≤ i) (h:i ≤ 5000):IntKind.i64.wrap ((i:Int) - 1) = ((i - 1:Nat):Int):=by rw [wI64 (by omega) (by omega)];omega
theorem wA {i j:Nat} (h:i ≤ 5000) (h':j ≤ 5000):IntKind.i64.wrap ((i:Int) + (j:Int)) = ((i + j:Nat):Int):=by rw [wI64 (by omega) (by omega)];omega
theorem wD {i j:Nat} (h:j ≤ i) (h':i ≤ 5000):IntKind.i64.wrap ((i:Int) - (j:Int)) = ((i - j:Nat):Int):=by rw [wI64 (by omega) (by omega)];omega

theorem insI_size (a:Nat):∀ (j:Nat) (d:Array Int),(Go.Sort.insInner lI a j d).size = d.size
 | 0,_=>rfl
 | j + 1,d=>by
  unfold Go.Sort.insInner
  split
  ·rw [insI_size,Go.Sort.size_swp]
  ·rfl
theorem ins_body (a j:Nat) (d:Array Int) (hj:j + 1 < d.size) (hN:d.size ≤ 1000):slices_insertionSortOrdered_uint16_o_l0 (a:Int) (((j + 1:Nat):Int),d.toList) = if (decide (j + 1 > a) && lI d[j + 1]! d[j]!) = true then pure (.next ((j:Int),(Go.Sort.swp d (j + 1) j).toList)) else pure (.done d.toList):=by
 unfold slices_insertionSortOrdered_uint16_o_l0;have e1:=wP (i:=j) (by omega)
 by_cases h:j + 1 > a
 ·have hd:decide ((a:Int) < ((j + 1:Nat):Int)) = true:=decide_eq_true (by omega);simp only [hd,cond_true,e1];rw [rd hj,pure_bind,rd (show j < d.size by omega),pure_bind,less_eq,det_pure,pure_bind,pure_bind]
  cases hc:lI d[j + 1]! d[j]!
  ·simp
  ·rw [cond_true,pure_bind,pure_bind,pure_bind,rdI,setset]
   ·simp [h]
   ·simp;omega
 ·have hd:decide ((a:Int) < ((j + 1:Nat):Int)) = false:=decide_eq_false (by omega);simp only [hd,cond_false,pure_bind];simp [h]
theorem ins0 (a:Nat):∀ (j:Nat) (d:Array Int),j < d.size → d.size ≤ 1000 → loop (slices_insertionSortOrdered_uint16_o_l0 (a:Int)) ((j:Int),d.toList) = pure (Go.Sort.insInner lI a j d).toList
 | 0,d,_,_=>loop_done (by
   unfold slices_insertionSortOrdered_uint16_o_l0;have hd:decide ((a:Int) < ((0:Nat):Int)) = false:=decide_eq_false (by omega);simp only [hd,cond_false,pure_bind]
   rfl)
 | j + 1,d,hj,hN=>by
  have hb:=ins_body a j d hj hN;unfold Go.Sort.insInner
  split
  ·rename_i hc
   rw [if_pos hc] at hb;rw [loop_next hb];exact ins0 a j _ (by rw [Go.Sort.size_swp];omega) (by rw [Go.Sort.size_swp];omega)
  ·rename_i hc
   rw [if_neg hc] at hb;exact loop_done hb
theorem ins1 (a b:Nat):∀ (n i:Nat) (d:Array Int),b - i = n → i ≤ 1000 → b ≤ d.size → d.size ≤ 1000 → loop (slices_insertionSortOrdered_uint16_o_l1 (b:Int) (a:Int)) ((i:Int),d.toList) = pure (Go.Sort.insOuter lI a b i d).toList:=by
 intro n
 induction n with
 | zero=>
  intro i d hn _ hb hN;rw [Go.Sort.insOuter,if_neg (by omega)];refine loop_done ?_;unfold slices_insertionSortOrdered_uint16_o_l1;have hd:decide ((i:Int) < (b:Int)) = false:=decide_eq_false (by omega);simp only [hd,cond_false]
 | succ n ih=>
  intro i d hn hi hb hN;rw [Go.Sort.insOuter,if_pos (by omega)];rw [loop_next (s':=(((i + 1:Nat):Int),(Go.Sort.insInner lI a i d).toList)) (by
   unfold slices_insertionSortOrdered_uint16_o_l1;have hd:decide ((i:Int) < (b:Int)) = true:=decide_eq_true (by omega);simp only [hd,cond_true];rw [ins0 a i d (by omega) hN,pure_bind,wS (by omega)])]
  exact ih (i + 1) _ (by omega) (by omega) (by rw [insI_size];exact hb) (by rw [insI_size];exact hN)
theorem ins_eq (a b:Nat) (d:Array Int) (hb:b ≤ d.size) (hab:a ≤ b) (hN:d.size ≤ 900):slices_insertionSortOrdered_uint16_o (a:Int) (b:Int) d.toList = pure (Go.Sort.insertionSort lI d a b).toList:=by
 unfold slices_insertionSortOrdered_uint16_o Go.Sort.insertionSort;rw [wS (by omega)];exact ins1 a b _ _ d rfl (by omega) hb (by omega)

theorem sift_size (hi first:Nat):∀ (n root:Nat) (d:Array Int),hi - root ≤ n → (Go.Sort.siftDown lI hi first root d).size = d.size:=by
 intro n
 induction n with
 | zero=>intro root d h;rw [Go.Sort.siftDown,dif_pos (by omega)]
 | succ n ih=>
  intro root d h;rw [Go.Sort.siftDown]
  split
  ·rfl
  ·split
   ·split
    ·rfl
    ·split
     ·rw [ih _ _ (by omega),Go.Sort.size_swp]
     ·rfl
   ·split
    ·rfl
    ·rw [ih _ _ (by omega),Go.Sort.size_swp]
theorem sift0 (hi first:Nat):∀ (n root:Nat) (d:Array Int),hi - root ≤ n → root ≤ 1000 → first + hi ≤ d.size → d.size ≤ 1000 → loop (slices_siftDownOrdered_uint16_o_l0 (hi:Int) (first:Int)) ((root:Int),d.toList) = pure (Go.Sort.siftDown lI hi first root d).toList:=by
 have e1:∀ {root:Nat},root ≤ 1000 → IntKind.i64.wrap (IntKind.i64.wrap (2 * (root:Int)) + 1) = ((2 * root + 1:Nat):Int):=fun {root} h=>by
  rw [wI64 (n:=2 * (root:Int)) (by omega) (by omega),wI64 (by omega) (by omega)];omega
 have stop:∀ (root:Nat) (d:Array Int),root ≤ 1000 → 2 * root + 1 ≥ hi → loop (slices_siftDownOrdered_uint16_o_l0 (hi:Int) (first:Int)) ((root:Int),d.toList) = pure (Go.Sort.siftDown lI hi first root d).toList:=fun root d hr h=>by
  rw [Go.Sort.siftDown,dif_pos h];refine loop_done ?_;unfold slices_siftDownOrdered_uint16_o_l0;have hd:decide ((hi:Int) ≤ ((2 * root + 1:Nat):Int)) = true:=decide_eq_true (by omega);simp only [e1 hr,hd,cond_true]
 intro n
 induction n with
 | zero=>intro root d h hr hs hN;exact stop root d hr (by omega)
 | succ n ih=>
  intro root d h hr hs hN
  by_cases h1:2 * root + 1 ≥ hi
  ·exact stop root d hr h1
  have hd:decide ((hi:Int) ≤ ((2 * root + 1:Nat):Int)) = false:=decide_eq_false (by omega);have e2:IntKind.i64.wrap (((2 * root + 1:Nat):Int) + 1) = ((2 * root + 2:Nat):Int):=wS (by omega);have e3:IntKind.i64.wrap ((first:Int) + ((2 * root + 1:Nat):Int)) = ((first + (2 * root + 1):Nat):Int):=wA (by omega) (by omega);have e4:IntKind.i64.wrap (((first + (2 * root + 1):Nat):Int) + 1) = ((first + (2 * root + 1) + 1:Nat):Int):=wS (by omega);have e5:IntKind.i64.wrap ((first:Int) + (root:Int)) = ((first + root:Nat):Int):=wA (by omega) (by omega);have e6:IntKind.i64.wrap ((first:Int) + ((2 * root + 2:Nat):Int)) = ((first + (2 * root + 2):Nat):Int):=wA (by omega) (by omega);have hr0:first + root < d.size:=by omega
  have hr1:first + (2 * root + 1) < d.size:=by omega
  rw [Go.Sort.siftDown,dif_neg h1]
  split
  ·rename_i hc
   obtain ⟨hc1,hc2⟩:=(Bool.and_eq_true _ _).mp hc;have hc1':=of_decide_eq_true hc1;have hr2:first + (2 * root + 2) < d.size:=by omega
   have hd2:decide (((2 * root + 2:Nat):Int) < (hi:Int)) = true:=decide_eq_true (by omega);have hbd:slices_siftDownOrdered_uint16_o_l0 (hi:Int) (first:Int) ((root:Int),d.toList) = if (!lI d[first + root]! d[first + (2 * root + 2)]!) = true then pure (.done d.toList) else pure (.next (((2 * root + 2:Nat):Int),(Go.Sort.swp d (first + root) (first + (2 * root + 2))).toList)):=by
    unfold slices_siftDownOrdered_uint16_o_l0;simp only [e1 hr,e2,e3,e4,e5,hd,hd2,cond_true,cond_false];rw [rd hr1,pure_bind,rd (show first + (2 * root + 1) + 1 < d.size by omega),pure_bind,less_eq,det_pure,pure_bind,pure_bind,hc2,cond_true,pure_bind];simp only [e6];rw [rd hr0,pure_bind,rd hr2,pure_bind,less_eq,det_pure,pure_bind]
    cases hl:lI d[first + root]! d[first + (2 * root + 2)]!
    ·rfl
    ·rw [Bool.not_true,cond_false,pure_bind,pure_bind,pure_bind,rdI,setset]
     ·rfl
     ·simp;omega
   split
   ·rename_i hq
    rw [if_pos hq] at hbd;exact loop_done hbd
   ·rename_i hq
    rw [if_neg hq] at hbd
    try rw [dif_pos hc1']
    rw [loop_next hbd];exact ih _ _ (by omega) (by omega) (by rw [Go.Sort.size_swp];exact hs) (by rw [Go.Sort.size_swp];exact hN)
  ·rename_i hc
   have hbd:slices_siftDownOrdered_uint16_o_l0 (hi:Int) (first:Int) ((root:Int),d.toList) = if (!lI d[first + root]! d[first + (2 * root + 1)]!) = true then pure (.done d.toList) else pure (.next (((2 * root + 1:Nat):Int),(Go.Sort.swp d (first + root) (first + (2 * root + 1))).toList)):=by
    unfold slices_siftDownOrdered_uint16_o_l0;have hv:(cond (decide (((2 * root + 2:Nat):Int) < (hi:Int))) ((idx d.toList ((first + (2 * root + 1):Nat):Int)).bind fun x=>(idx d.toList ((first + (2 * root + 1) + 1:Nat):Int)).bind fun y=>(det (cmp_Less_uint16 x y)).bind fun v=>pure v) (pure false):M Bool) = pure false:=by
     by_cases hq:2 * root + 2 < hi
     ·have hd2:decide (((2 * root + 2:Nat):Int) < (hi:Int)) = true:=decide_eq_true (by omega);rw [hd2,cond_true,rd hr1,pure_bind,rd (show first + (2 * root + 1) + 1 < d.size by omega),pure_bind,less_eq,det_pure,pure_bind];have:lI d[first + (2 * root + 1)]! d[first + (2 * root + 1) + 1]! = false:=by
       cases hz:lI d[first + (2 * root + 1)]! d[first + (2 * root + 1) + 1]!
       ·rfl
       ·exact absurd (by rw [Bool.and_eq_true];exact ⟨decide_eq_true hq,hz⟩) hc
      rw [this]
     ·have hd2:decide (((2 * root + 2:Nat):Int) < (hi:Int)) = false:=decide_eq_false (by omega);rw [hd2,cond_false]
    simp only [e1 hr,e2,e3,e4,e5,hd,cond_false];rw [hv,pure_bind,cond_false,pure_bind];simp only [e3];rw [rd hr0,pure_bind,rd hr1,pure_bind,less_eq,det_pure,pure_bind]
    cases hl:lI d[first + root]! d[first + (2 * root + 1)]!
    ·rfl
    ·rw [Bool.not_true,cond_false,pure_bind,pure_bind,pure_bind,rdI,setset]
     ·rfl
     ·simp;omega
   split
   ·rename_i hq
    rw [if_pos hq] at hbd;exact loop_done hbd
   ·rename_i hq
    rw [if_neg hq] at hbd;rw [loop_next hbd];exact ih _ _ (by omega) (by omega) (by rw [Go.Sort.size_swp];exact hs) (by rw [Go.Sort.size_swp];exact hN)
theorem sift_eq (hi first root:Nat) (d:Array Int) (hr:root ≤ 1000) (hs:first + hi ≤ d.size) (hN:d.size ≤ 1000):slices_siftDownOrdered_uint16_o (root:Int) (hi:Int) (first:Int) d.toList = pure (Go.Sort.siftDown lI hi first root d).toList:=sift0 hi first _ root d (Nat.le_refl _) hr hs hN
theorem build_size (hi first:Nat):∀ (k:Nat) (d:Array Int),(Go.Sort.heapBuild lI hi first k d).size = d.size
 | 0,_=>rfl
 | k + 1,d=>by unfold Go.Sort.heapBuild;rw [build_size,sift_size hi first _ _ _ (Nat.le_refl _)]
theorem heap0 (a b:Nat) (hab:a ≤ b):∀ (k:Nat) (d:Array Int),k ≤ 1000 → b ≤ d.size → d.size ≤ 1000 → loop (slices_heapSortOrdered_uint16_o_l0 (b:Int) (a:Int)) ((k:Int) - 1,d.toList) = pure (Go.Sort.heapBuild lI (b - a) a k d).toList
 | 0,d,_,_,_=>loop_done (by
   unfold slices_heapSortOrdered_uint16_o_l0;have hd:decide ((0:Int) ≤ ((0:Nat):Int) - 1) = false:=rfl;simp only [hd,cond_false]
   rfl)
 | k + 1,d,hk,hb,hN=>by
  rw [show (((k + 1:Nat):Int) - 1) = (k:Int) by omega];unfold Go.Sort.heapBuild;rw [loop_next (s':=((k:Int) - 1,(Go.Sort.siftDown lI (b - a) a k d).toList)) (by
   unfold slices_heapSortOrdered_uint16_o_l0;have hd:decide ((0:Int) ≤ (k:Int)) = true:=decide_eq_true (by omega);simp only [hd,cond_true];rw [wD hab (by omega),sift_eq _ _ _ _ (by omega) (by omega) hN,det_pure,pure_bind,need_true (by simp [sift_size (b - a) a _ k d (Nat.le_refl _)]),wI64 (by omega) (by omega)])]
  exact heap0 a b hab k _ (by omega) (by rw [sift_size _ _ _ _ _ (Nat.le_refl _)];exact hb) (by rw [sift_size _ _ _ _ _ (Nat.le_refl _)];exact hN)
theorem heap1 (a:Nat):∀ (k:Nat) (d:Array Int),a + k ≤ d.size → d.size ≤ 1000 → loop (slices_heapSortOrdered_uint16_o_l1 (a:Int)) ((k:Int) - 1,d.toList) = pure (Go.Sort.heapPop lI a k d).toList
 | 0,d,_,_=>loop_done (by
   unfold slices_heapSortOrdered_uint16_o_l1;have hd:decide ((0:Int) ≤ ((0:Nat):Int) - 1) = false:=rfl;simp only [hd,cond_false]
   rfl)
 | k + 1,d,hk,hN=>by
  have hz:(Go.Sort.siftDown lI k a 0 (Go.Sort.swp d a (a + k))).size = d.size:=by rw [sift_size _ _ _ _ _ (Nat.le_refl _),Go.Sort.size_swp]
  rw [show (((k + 1:Nat):Int) - 1) = (k:Int) by omega];unfold Go.Sort.heapPop;rw [loop_next (s':=((k:Int) - 1,(Go.Sort.siftDown lI k a 0 (Go.Sort.swp d a (a + k))).toList)) (by
   unfold slices_heapSortOrdered_uint16_o_l1;have hd:decide ((0:Int) ≤ (k:Int)) = true:=decide_eq_true (by omega);simp only [hd,cond_true];rw [wA (by omega) (by omega),rd (show a + k < d.size by omega),pure_bind,rd (show a < d.size by omega),pure_bind,pure_bind,rdI,setset,show (0:Int) = ((0:Nat):Int) from rfl,sift_eq _ _ _ _ (by omega) (by rw [Go.Sort.size_swp];omega) (by rw [Go.Sort.size_swp];exact hN),det_pure,pure_bind,need_true (by simp [hz]),wI64 (by omega) (by omega)];simp;omega)]
  exact heap1 a k _ (by rw [hz];omega) (by rw [hz];exact hN)
theorem heap_eq (a b:Nat) (d:Array Int) (hab:a < b) (hb:b ≤ d.size) (hN:d.size ≤ 900):slices_heapSortOrdered_uint16_o (a:Int) (b:Int) d.toList = pure (Go.Sort.heapSort lI d a b).toList:=by
 unfold slices_heapSortOrdered_uint16_o Go.Sort.heapSort;have e1:IntKind.i64.wrap (Int.tdiv (IntKind.i64.wrap ((((b - a:Nat)):Int) - 1)) 2) = ((((b - a - 1) / 2 + 1:Nat)):Int) - 1:=by
  rw [wP' (by omega) (by omega),show Int.tdiv (((b - a - 1:Nat)):Int) 2 = ((((b - a - 1) / 2:Nat)):Int) from rfl,wI64 (by omega) (by omega)];omega
 rw [wD (by omega) (by omega),e1,heap0 a b (by omega) _ _ (by omega) hb (by omega),pure_bind,wI64 (by omega) (by omega)];exact heap1 a (b - a) _ (by rw [build_size];omega) (by rw [build_size];omega)


theorem scanUp_loop {body:Int → M (Step Int Int)} (p:Int → Bool) (d:Array Int) (j:Nat) (hb:∀ i:Nat,i ≤ 2000 → body (i:Int) = if (decide (i ≤ j) && p d[i]!) = true then pure (.next ((i + 1:Nat):Int)) else pure (.done (i:Int))) (hj:j ≤ 1000) :
  ∀ n i:Nat,j + 1 - i = n → i ≤ 1001 → loop body (i:Int) = pure ((Go.Sort.scanUp p d j i:Nat):Int):=by
 intro n
 induction n with
 | zero=>
  intro i hn hi;rw [Go.Sort.scanUp];have hc:¬ (decide (i ≤ j) && p d[i]!) = true:=by
   have:decide (i ≤ j) = false:=decide_eq_false (by omega);rw [this];simp
  have h1:=hb i (by omega);rw [if_neg hc] at h1;rw [if_neg hc];exact loop_done h1
 | succ n ih=>
  intro i hn hi;rw [Go.Sort.scanUp];have h1:=hb i (by omega)
  split
  ·rename_i hc
   rw [if_pos hc] at h1;rw [loop_next h1];exact ih (i + 1) (by omega) (by omega)
  ·rename_i hc
   rw [if_neg hc] at h1;exact loop_done h1
theorem scanDown_loop {body:Int → M (Step Int Int)} (p:Int → Bool) (d:Array Int) (i N:Nat) (hi:1 ≤ i) (hb:∀ j:Nat,j < N → body (j:Int) = if (decide (i ≤ j) && p d[j]!) = true then pure (.next ((j - 1:Nat):Int)) else pure (.done (j:Int))) :
  ∀ j:Nat,j < N → loop body (j:Int) = pure ((Go.Sort.scanDown p d i j:Nat):Int)
 | 0,hj=>by
  have h1:=hb 0 hj;have hc:¬ (decide (i ≤ 0) && p d[0]!) = true:=by
   have:decide (i ≤ 0) = false:=decide_eq_false (by omega);rw [this];simp
  rw [if_neg hc] at h1;exact loop_done h1
 | j + 1,hj=>by
  have h1:=hb (j + 1) hj;rw [Go.Sort.scanDown]
  split
  ·rename_i hc
   rw [if_pos hc] at h1;rw [loop_next h1];exact scanDown_loop p d i N hi hb j (by omega)
  ·rename_i hc
   rw [if_neg hc] at h1;exact loop_done h1
theorem scanSorted_loop {body:Int → M (Step Int Int)} (d:Array Int) (b:Nat) (hb:∀ i:Nat,1 ≤ i → i ≤ 2000 → body (i:Int) = if (decide (i < b) && !lI d[i]! d[i - 1]!) = true then pure (.next ((i + 1:Nat):Int)) else pure (.done (i:Int))) (hj:b ≤ 1000) :
  ∀ n i:Nat,b - i = n → 1 ≤ i → i ≤ 1001 → loop body (i:Int) = pure ((Go.Sort.scanSorted lI d b i:Nat):Int):=by
 intro n
 induction n with
 | zero=>
  intro i hn h0 hi;rw [Go.Sort.scanSorted];have hc:¬ (decide (i < b) && !lI d[i]! d[i - 1]!) = true:=by
   have:decide (i < b) = false:=decide_eq_false (by omega);rw [this];simp
  have h1:=hb i h0 (by omega);rw [if_neg hc] at h1;rw [if_neg hc];exact loop_done h1
 | succ n ih=>
  intro i hn h0 hi;rw [Go.Sort.scanSorted];have h1:=hb i h0 (by omega)
  split
  ·rename_i hc
   rw [if_pos hc] at h1;rw [loop_next h1];exact ih (i + 1) (by omega) (by omega) (by omega)
  ·rename_i hc
   rw [if_neg hc] at h1;exact loop_done h1

theorem pt0 {b a pivot:Nat} {row:List Int} {x y:Int} {d:Array Int} (hd:List.set (List.set row (Int.toNat (a:Int)) x) (Int.toNat (pivot:Int)) y = d.toList) (hb:1 ≤ b) (hs:b ≤ d.size) (ha:a < d.size) (hN:d.size ≤ 900) (i:Nat) (hi:i ≤ 1001) :
  loop (slices_partitionOrdered_uint16_o_l0 (b:Int) row (a:Int) x (pivot:Int) y) (i:Int) = pure ((Go.Sort.scanUp (fun z=>lI z d[a]!) d (b - 1) i:Nat):Int):=by
 refine scanUp_loop _ d (b - 1) (fun i hi=>?_) (by omega) _ i rfl hi;unfold slices_partitionOrdered_uint16_o_l0;rw [wP' hb (by omega),hd,wS (by omega)]
 by_cases h:i ≤ b - 1
 ·rw [show decide ((i:Int) ≤ ((b - 1:Nat):Int)) = true from decide_eq_true (by omega),cond_true,rd (show i < d.size by omega),pure_bind,rd ha,pure_bind,less_eq,det_pure,pure_bind,pure_bind];simp only [h,decide_true,Bool.true_and]
  cases lI d[i]! d[a]! <;> rfl
 ·rw [show decide ((i:Int) ≤ ((b - 1:Nat):Int)) = false from decide_eq_false (by omega),cond_false,pure_bind];simp [h]
theorem pt1 {a pivot i:Nat} {row:List Int} {x y:Int} {d:Array Int} (hd:List.set (List.set row (Int.toNat (a:Int)) x) (Int.toNat (pivot:Int)) y = d.toList) (h1:1 ≤ i) (ha:a < d.size) (hN:d.size ≤ 900) (j:Nat) (hj:j < d.size) :
  loop (slices_partitionOrdered_uint16_o_l1 (i:Int) row (a:Int) x (pivot:Int) y) (j:Int) = pure ((Go.Sort.scanDown (fun z=>!lI z d[a]!) d i j:Nat):Int):=by
 refine scanDown_loop _ d i d.size h1 (fun j hj=>?_) j hj;unfold slices_partitionOrdered_uint16_o_l1;rw [hd]
 by_cases h:i ≤ j
 ·rw [show decide ((i:Int) ≤ (j:Int)) = true from decide_eq_true (by omega),cond_true,rd hj,pure_bind,rd ha,pure_bind,less_eq,det_pure,pure_bind,pure_bind,wP' (by omega) (by omega)];simp only [h,decide_true,Bool.true_and]
  cases lI d[j]! d[a]! <;> rfl
 ·rw [show decide ((i:Int) ≤ (j:Int)) = false from decide_eq_false (by omega),cond_false,pure_bind];simp [h]
theorem pt2 {a j:Nat} {d:Array Int} (hj:j < d.size) (ha:a < d.size) (hN:d.size ≤ 900) (i:Nat) (hi:i ≤ 1001) :
  loop (slices_partitionOrdered_uint16_o_l2 (j:Int) d.toList (a:Int)) (i:Int) = pure ((Go.Sort.scanUp (fun z=>lI z d[a]!) d j i:Nat):Int):=by
 refine scanUp_loop _ d j (fun i hi=>?_) (by omega) _ i rfl hi;unfold slices_partitionOrdered_uint16_o_l2;rw [wS (by omega)]
 by_cases h:i ≤ j
 ·rw [show decide ((i:Int) ≤ (j:Int)) = true from decide_eq_true (by omega),cond_true,rd (show i < d.size by omega),pure_bind,rd ha,pure_bind,less_eq,det_pure,pure_bind,pure_bind];simp only [h,decide_true,Bool.true_and]
  cases lI d[i]! d[a]! <;> rfl
 ·rw [show decide ((i:Int) ≤ (j:Int)) = false from decide_eq_false (by omega),cond_false,pure_bind];simp [h]
theorem pt3 {a i:Nat} {d:Array Int} (h1:1 ≤ i) (ha:a < d.size) (hN:d.size ≤ 900) (j:Nat) (hj:j < d.size) :
  loop (slices_partitionOrdered_uint16_o_l3 (i:Int) d.toList (a:Int)) (j:Int) = pure ((Go.Sort.scanDown (fun z=>!lI z d[a]!) d i j:Nat):Int):=by
 refine scanDown_loop _ d i d.size h1 (fun j hj=>?_) j hj;unfold slices_partitionOrdered_uint16_o_l3
 by_cases h:i ≤ j
 ·rw [show decide ((i:Int) ≤ (j:Int)) = true from decide_eq_true (by omega),cond_true,rd hj,pure_bind,rd ha,pure_bind,less_eq,det_pure,pure_bind,pure_bind,wP' (by omega) (by omega)];simp only [h,decide_true,Bool.true_and]
  cases lI d[j]! d[a]! <;> rfl
 ·rw [show decide ((i:Int) ≤ (j:Int)) = false from decide_eq_false (by omega),cond_false,pure_bind];simp [h]
theorem pt4 (a:Nat):∀ (n i j:Nat) (d:Array Int),j + 1 - i ≤ n → a < i → i ≤ 1001 → j < d.size → d.size ≤ 900 → a < d.size →
  loop (slices_partitionOrdered_uint16_o_l4 (a:Int)) ((i:Int),(j:Int),d.toList) = pure (((Go.Sort.partLoop lI a i j d).1:Int),(Go.Sort.partLoop lI a i j d).2.toList):=by
 intro n
 induction n with
 | zero=>
  intro i j d hn hai hi hj hN ha;have h2:=pt2 (a:=a) hj ha hN i hi;have h3:=pt3 (a:=a) (i:=Go.Sort.scanUp (fun z=>lI z d[a]!) d j i) (by have:=Go.Sort.scanUp_ge (fun z=>lI z d[a]!) d j i;omega) ha hN j hj;have g1:=Go.Sort.scanUp_ge (fun z=>lI z d[a]!) d j i;have g2:=Go.Sort.scanDown_le (fun z=>!lI z d[a]!) d (Go.Sort.scanUp (fun z=>lI z d[a]!) d j i) j;rw [Go.Sort.partLoop_eq,if_pos (by omega)];refine loop_done ?_;unfold slices_partitionOrdered_uint16_o_l4;simp only [h2,pure_bind,h3];rw [decide_eq_true (by omega),cond_true]
 | succ n ih=>
  intro i j d hn hai hi hj hN ha;have h2:=pt2 (a:=a) hj ha hN i hi;have h3:=pt3 (a:=a) (i:=Go.Sort.scanUp (fun z=>lI z d[a]!) d j i) (by have:=Go.Sort.scanUp_ge (fun z=>lI z d[a]!) d j i;omega) ha hN j hj;have g1:=Go.Sort.scanUp_ge (fun z=>lI z d[a]!) d j i;have g2:=Go.Sort.scanDown_le (fun z=>!lI z d[a]!) d (Go.Sort.scanUp (fun z=>lI z d[a]!) d j i) j;rw [Go.Sort.partLoop_eq]
  generalize hI:Go.Sort.scanUp (fun z=>lI z d[a]!) d j i = i2 at h2 h3 g1 g2 ⊢
  generalize hJ:Go.Sort.scanDown (fun z=>!lI z d[a]!) d i2 j = j2 at h3 g2 ⊢
  split
  ·refine loop_done ?_;unfold slices_partitionOrdered_uint16_o_l4;simp only [h2,pure_bind,h3];rw [decide_eq_true (by omega),cond_true]
  ·rw [loop_next (s':=(((i2 + 1:Nat):Int),((j2 - 1:Nat):Int),(Go.Sort.swp d i2 j2).toList)) (by
    unfold slices_partitionOrdered_uint16_o_l4;simp only [h2,pure_bind,h3];rw [decide_eq_false (by omega),cond_false,rd (show j2 < d.size by omega),pure_bind,rd (show i2 < d.size by omega),pure_bind,pure_bind,rdI,setset,wS (by omega),wP' (by omega) (by omega)];simp;omega)]
   exact ih _ _ _ (by omega) (by omega) (by omega) (by rw [Go.Sort.size_swp];omega) (by rw [Go.Sort.size_swp];exact hN) (by rw [Go.Sort.size_swp];exact ha)
theorem partLoop_size (a:Nat):∀ (n i j:Nat) (d:Array Int),j + 1 - i ≤ n → (Go.Sort.partLoop lI a i j d).2.size = d.size:=by
 intro n
 induction n with
 | zero=>
  intro i j d hn;have g1:=Go.Sort.scanUp_ge (fun z=>lI z d[a]!) d j i;have g2:=Go.Sort.scanDown_le (fun z=>!lI z d[a]!) d (Go.Sort.scanUp (fun z=>lI z d[a]!) d j i) j;rw [Go.Sort.partLoop_eq]
  split
  ·rfl
  ·omega
 | succ n ih=>
  intro i j d hn;have g1:=Go.Sort.scanUp_ge (fun z=>lI z d[a]!) d j i;have g2:=Go.Sort.scanDown_le (fun z=>!lI z d[a]!) d (Go.Sort.scanUp (fun z=>lI z d[a]!) d j i) j;rw [Go.Sort.partLoop_eq]
  split
  ·rfl
  ·rw [ih _ _ _ (by omega),Go.Sort.size_swp]
theorem swoI : Go.Sort.SWO lI:=Go.Sort.swo_ltInt
theorem part_eq (a b pivot:Nat) (d:Array Int) (h1:a ≤ pivot) (h2:pivot < b) (hb:b ≤ d.size) (hN:d.size ≤ 900) :
  slices_partitionOrdered_uint16_o (a:Int) (b:Int) (pivot:Int) d.toList = pure (((Go.Sort.partition lI d a b pivot).1:Int),(Go.Sort.partition lI d a b pivot).2.1,(Go.Sort.partition lI d a b pivot).2.2.toList):=by
 have hsp:=Go.Sort.partition_holds (lt:=lI) swoI d a b pivot h1 h2 hb;have hss:=setset (d:=d) a pivot;have ha:a < d.size:=by omega
 have hz:(Go.Sort.swp d a pivot).size = d.size:=Go.Sort.size_swp _ _ _;unfold slices_partitionOrdered_uint16_o;rw [rd (show pivot < d.size by omega),pure_bind,rd ha,pure_bind,pure_bind,rdI (by simp;omega)];have e0:=pt0 (b:=b) hss (by omega) (by omega) (by omega) (by omega) (a + 1) (by omega);have g0:=Go.Sort.scanUp_ge (fun z=>lI z (Go.Sort.swp d a pivot)[a]!) (Go.Sort.swp d a pivot) (b - 1) (a + 1);have e1:=pt1 (i:=Go.Sort.scanUp (fun z=>lI z (Go.Sort.swp d a pivot)[a]!) (Go.Sort.swp d a pivot) (b - 1) (a + 1)) hss (by omega) (by omega) (by omega) (b - 1) (by omega);rw [wS (by omega),e0,pure_bind,wP' (by omega) (by omega),e1,pure_bind,hss];have g1:=Go.Sort.scanDown_le (fun z=>!lI z (Go.Sort.swp d a pivot)[a]!) (Go.Sort.swp d a pivot) (Go.Sort.scanUp (fun z=>lI z (Go.Sort.swp d a pivot)[a]!) (Go.Sort.swp d a pivot) (b - 1) (a + 1)) (b - 1);unfold Go.Sort.partition at hsp ⊢;simp only [] at hsp ⊢
 generalize Go.Sort.scanUp (fun z=>lI z (Go.Sort.swp d a pivot)[a]!) (Go.Sort.swp d a pivot) (b - 1) (a + 1) = i2 at *
 generalize Go.Sort.scanDown (fun z=>!lI z (Go.Sort.swp d a pivot)[a]!) (Go.Sort.swp d a pivot) i2 (b - 1) = j2 at *
 generalize Go.Sort.swp d a pivot = D at *
 by_cases hc:i2 > j2
 ·rw [decide_eq_true (show (j2:Int) < (i2:Int) by omega),cond_true];simp only [if_pos hc] at hsp ⊢;rw [rd (show a < D.size by omega),pure_bind,rd (show j2 < D.size by omega),pure_bind,pure_bind,rdI (by simp;omega),setset]
 ·rw [decide_eq_false (show ¬ (j2:Int) < (i2:Int) by omega),cond_false];simp only [if_neg hc] at hsp ⊢;have hz2:(Go.Sort.swp D i2 j2).size = D.size:=Go.Sort.size_swp _ _ _;rw [rd (show j2 < D.size by omega),pure_bind,rd (show i2 < D.size by omega),pure_bind,pure_bind,rdI (by simp;omega),setset,wS (by omega),wP' (by omega) (by omega),pt4 a _ _ _ _ (Nat.le_refl _) (by omega) (by omega) (by omega) (by omega) (by omega),pure_bind];have hz3:=partLoop_size a _ (i2 + 1) (j2 - 1) (Go.Sort.swp D i2 j2) (Nat.le_refl _)
  generalize Go.Sort.partLoop lI a (i2 + 1) (j2 - 1) (Go.Sort.swp D i2 j2) = r at *
  have hr:=hsp.2.1;simp only [];rw [rd (show a < r.2.size by omega),pure_bind,rd (show r.1 < r.2.size by omega),pure_bind,pure_bind,rdI (by simp;omega),setset]

theorem pe0 {a j:Nat} {d:Array Int} (hj:j < d.size) (ha:a < d.size) (hN:d.size ≤ 900) (i:Nat) (hi:i ≤ 1001) :
  loop (slices_partitionEqualOrdered_uint16_o_l0 (j:Int) d.toList (a:Int)) (i:Int) = pure ((Go.Sort.scanUp (fun z=>!lI d[a]! z) d j i:Nat):Int):=by
 refine scanUp_loop _ d j (fun i hi=>?_) (by omega) _ i rfl hi;unfold slices_partitionEqualOrdered_uint16_o_l0;rw [wS (by omega)]
 by_cases h:i ≤ j
 ·rw [show decide ((i:Int) ≤ (j:Int)) = true from decide_eq_true (by omega),cond_true,rd ha,pure_bind,rd (show i < d.size by omega),pure_bind,less_eq,det_pure,pure_bind,pure_bind];simp only [h,decide_true,Bool.true_and]
  cases lI d[a]! d[i]! <;> rfl
 ·rw [show decide ((i:Int) ≤ (j:Int)) = false from decide_eq_false (by omega),cond_false,pure_bind];simp [h]
theorem pe1 {a i:Nat} {d:Array Int} (h1:1 ≤ i) (ha:a < d.size) (hN:d.size ≤ 900) (j:Nat) (hj:j < d.size) :
  loop (slices_partitionEqualOrdered_uint16_o_l1 (i:Int) d.toList (a:Int)) (j:Int) = pure ((Go.Sort.scanDown (fun z=>lI d[a]! z) d i j:Nat):Int):=by
 refine scanDown_loop _ d i d.size h1 (fun j hj=>?_) j hj;unfold slices_partitionEqualOrdered_uint16_o_l1
 by_cases h:i ≤ j
 ·rw [show decide ((i:Int) ≤ (j:Int)) = true from decide_eq_true (by omega),cond_true,rd ha,pure_bind,rd hj,pure_bind,less_eq,det_pure,pure_bind,pure_bind,wP' (by omega) (by omega)];simp only [h,decide_true,Bool.true_and]
  cases lI d[a]! d[j]! <;> rfl
 ·rw [show decide ((i:Int) ≤ (j:Int)) = false from decide_eq_false (by omega),cond_false,pure_bind];simp [h]
theorem pe2 (a:Nat):∀ (n i j:Nat) (d:Array Int),j + 1 - i ≤ n → a < i → i ≤ 1001 → j < d.size → d.size ≤ 900 → a < d.size →
  loop (slices_partitionEqualOrdered_uint16_o_l2 (a:Int)) ((i:Int),(j:Int),d.toList) = pure (((Go.Sort.partEqLoop lI a i j d).1:Int),(Go.Sort.partEqLoop lI a i j d).2.toList):=by
 intro n
 induction n with
 | zero=>
  intro i j d hn hai hi hj hN ha;have h2:=pe0 (a:=a) hj ha hN i hi;have h3:=pe1 (a:=a) (i:=Go.Sort.scanUp (fun z=>!lI d[a]! z) d j i) (by have:=Go.Sort.scanUp_ge (fun z=>!lI d[a]! z) d j i;omega) ha hN j hj;have g1:=Go.Sort.scanUp_ge (fun z=>!lI d[a]! z) d j i;have g2:=Go.Sort.scanDown_le (fun z=>lI d[a]! z) d (Go.Sort.scanUp (fun z=>!lI d[a]! z) d j i) j;rw [Go.Sort.partEqLoop_eq,if_pos (by omega)];refine loop_done ?_;unfold slices_partitionEqualOrdered_uint16_o_l2;simp only [h2,pure_bind,h3];rw [decide_eq_true (by omega),cond_true]
 | succ n ih=>
  intro i j d hn hai hi hj hN ha;have h2:=pe0 (a:=a) hj ha hN i hi;have h3:=pe1 (a:=a) (i:=Go.Sort.scanUp (fun z=>!lI d[a]! z) d j i) (by have:=Go.Sort.scanUp_ge (fun z=>!lI d[a]! z) d j i;omega) ha hN j hj;have g1:=Go.Sort.scanUp_ge (fun z=>!lI d[a]! z) d j i;have g2:=Go.Sort.scanDown_le (fun z=>lI d[a]! z) d (Go.Sort.scanUp (fun z=>!lI d[a]! z) d j i) j;rw [Go.Sort.partEqLoop_eq]
  generalize hI:Go.Sort.scanUp (fun z=>!lI d[a]! z) d j i = i2 at h2 h3 g1 g2 ⊢
  generalize hJ:Go.Sort.scanDown (fun z=>lI d[a]! z) d i2 j = j2 at h3 g2 ⊢
  split
  ·refine loop_done ?_;unfold slices_partitionEqualOrdered_uint16_o_l2;simp only [h2,pure_bind,h3];rw [decide_eq_true (by omega),cond_true]
  ·rw [loop_next (s':=(((i2 + 1:Nat):Int),((j2 - 1:Nat):Int),(Go.Sort.swp d i2 j2).toList)) (by
    unfold slices_partitionEqualOrdered_uint16_o_l2;simp only [h2,pure_bind,h3];rw [decide_eq_false (by omega),cond_false,rd (show j2 < d.size by omega),pure_bind,rd (show i2 < d.size by omega),pure_bind,pure_bind,rdI,setset,wS (by omega),wP' (by omega) (by omega)];simp;omega)]
   exact ih _ _ _ (by omega) (by omega) (by omega) (by rw [Go.Sort.size_swp];omega) (by rw [Go.Sort.size_swp];exact hN) (by rw [Go.Sort.size_swp];exact ha)
theorem pe_eq (a b pivot:Nat) (d:Array Int) (h1:a ≤ pivot) (h2:pivot < b) (hb:b ≤ d.size) (hN:d.size ≤ 900) :
  slices_partitionEqualOrdered_uint16_o (a:Int) (b:Int) (pivot:Int) d.toList = pure (((Go.Sort.partitionEqual lI d a b pivot).1:Int),(Go.Sort.partitionEqual lI d a b pivot).2.toList):=by
 have hz:(Go.Sort.swp d a pivot).size = d.size:=Go.Sort.size_swp _ _ _;unfold slices_partitionEqualOrdered_uint16_o Go.Sort.partitionEqual;rw [rd (show pivot < d.size by omega),pure_bind,rd (show a < d.size by omega),pure_bind,pure_bind,rdI (by simp;omega),setset,wS (by omega),wP' (by omega) (by omega),pe2 a _ _ _ _ (Nat.le_refl _) (by omega) (by omega) (by omega) (by omega) (by omega),pure_bind]

theorem pi0 {b:Nat} {d:Array Int} (hb:b ≤ d.size) (hN:d.size ≤ 900) (i:Nat) (h0:1 ≤ i) (hi:i ≤ 1001) :
  loop (slices_partialInsertionSortOrdered_uint16_o_l0 (b:Int) d.toList) (i:Int) = pure ((Go.Sort.scanSorted lI d b i:Nat):Int):=by
 refine scanSorted_loop d b (fun i h0 hi=>?_) (by omega) _ i rfl h0 hi;unfold slices_partialInsertionSortOrdered_uint16_o_l0;rw [wS (by omega),wP' h0 (by omega)]
 by_cases h:i < b
 ·rw [show decide ((i:Int) < (b:Int)) = true from decide_eq_true (by omega),cond_true,rd (show i < d.size by omega),pure_bind,rd (show i - 1 < d.size by omega),pure_bind,less_eq,det_pure,pure_bind,pure_bind];simp only [h,decide_true,Bool.true_and]
  cases lI d[i]! d[i - 1]! <;> rfl
 ·rw [show decide ((i:Int) < (b:Int)) = false from decide_eq_false (by omega),cond_false,pure_bind];simp [h]
theorem pi_eq (a b:Nat) (d:Array Int) (hab:a < b) (h50:b - a < 50) (hb:b ≤ d.size) (hN:d.size ≤ 900) :
  slices_partialInsertionSortOrdered_uint16_o (a:Int) (b:Int) d.toList = pure ((Go.Sort.partialInsertionSort lI d a b).2,(Go.Sort.partialInsertionSort lI d a b).1.toList):=by
 unfold slices_partialInsertionSortOrdered_uint16_o Go.Sort.partialInsertionSort Go.Sort.partialIns;simp only [];have e:=pi0 hb hN (a + 1) (by omega) (by omega)
 by_cases hc:Go.Sort.scanSorted lI d b (a + 1) = b
 ·rw [if_pos hc,wS (by omega),loop_done (r:=.ret (true,d.toList)) (by
   unfold slices_partialInsertionSortOrdered_uint16_o_l3;simp only [];rw [show decide ((0:Int) < 5) = true from rfl,cond_true,e,pure_bind,hc,decide_eq_true rfl,cond_true]
   rfl),pure_bind,exk_ret]
 ·rw [if_neg hc,if_pos h50,wS (by omega),loop_done (r:=.ret (false,d.toList)) (by
   unfold slices_partialInsertionSortOrdered_uint16_o_l3;simp only [];rw [show decide ((0:Int) < 5) = true from rfl,cond_true,e,pure_bind,decide_eq_false (by omega),cond_false,wD (by omega) (by omega),decide_eq_true (by omega),cond_true]
   rfl),pure_bind,exk_ret]


theorem order2_eq (a b s:Nat) (d:Array Int) (ha:a < d.size) (hb:b < d.size) (hs:s ≤ 1000) :
  slices_order2Ordered_uint16_o1 (a:Int) (b:Int) d.toList (s:Int) = pure (((Go.Sort.order2 lI d a b s).1:Int),((Go.Sort.order2 lI d a b s).2.1:Int),((Go.Sort.order2 lI d a b s).2.2:Int)):=by
 unfold slices_order2Ordered_uint16_o1 Go.Sort.order2;rw [rd hb,pure_bind,rd ha,pure_bind,less_eq,det_pure,pure_bind,wS (by omega)]
 cases lI d[b]! d[a]! <;> rfl
theorem order2_lt {a b s N:Nat} (d:Array Int) (ha:a < N) (hb:b < N):(Go.Sort.order2 lI d a b s).1 < N ∧ (Go.Sort.order2 lI d a b s).2.1 < N:=by
 rcases Go.Sort.order2_mem lI d a b s with ⟨h1,h2⟩ | ⟨h1,h2⟩ <;> rw [h1,h2] <;> exact ⟨by assumption,by assumption⟩
theorem median_eq (a b c:Nat) (d:Array Int) (ha:a < d.size) (hb:b < d.size) (hc:c < d.size) :
  slices_medianOrdered_uint16_o1 (a:Int) (b:Int) (c:Int) d.toList 0 = pure (((Go.Sort.median lI d a b c 0).1:Int),((Go.Sort.median lI d a b c 0).2:Int)):=by
 unfold slices_medianOrdered_uint16_o1 Go.Sort.median;have h1:=order2_lt (s:=0) d ha hb;have c1:=Go.Sort.order2_count lI d a b 0;rw [show (0:Int) = ((0:Nat):Int) from rfl,order2_eq a b 0 d ha hb (by omega),det_pure,pure_bind];simp only []
 generalize Go.Sort.order2 lI d a b 0 = r1 at *
 have h2:=order2_lt (s:=r1.2.2) d h1.2 hc;have c2:=Go.Sort.order2_count lI d r1.2.1 c r1.2.2;rw [order2_eq _ _ _ d h1.2 hc (by omega),det_pure,pure_bind];simp only []
 generalize Go.Sort.order2 lI d r1.2.1 c r1.2.2 = r2 at *
 rw [order2_eq _ _ _ d h1.1 h2.1 (by omega),det_pure,pure_bind]
theorem choose_eq (a b:Nat) (d:Array Int) (hab:a + 8 ≤ b) (h50:b - a < 50) (hb:b ≤ d.size) (hN:d.size ≤ 900) :
  ∃ (p:Nat) (h:Int),slices_choosePivotOrdered_uint16_o (a:Int) (b:Int) d.toList = pure ((p:Int),h) ∧ a ≤ p ∧ p < b ∧ h ≠ 2:=by
 have eI:IntKind.i64.wrap ((a:Int) + IntKind.i64.wrap (IntKind.i64.wrap (Int.tdiv (IntKind.i64.wrap ((b:Int) - (a:Int))) 4) * 1)) = ((a + (b - a) / 4:Nat):Int):=by
  rw [wD (by omega) (by omega),show Int.tdiv (((b - a:Nat)):Int) 4 = ((((b - a) / 4:Nat)):Int) from rfl,wI64 (n:=(((b - a) / 4:Nat):Int)) (by omega) (by omega),wI64 (n:=(((b - a) / 4:Nat):Int) * 1) (by omega) (by omega),wI64 (by omega) (by omega)];omega
 have eJ:IntKind.i64.wrap ((a:Int) + IntKind.i64.wrap (IntKind.i64.wrap (Int.tdiv (IntKind.i64.wrap ((b:Int) - (a:Int))) 4) * 2)) = ((a + (b - a) / 4 * 2:Nat):Int):=by
  rw [wD (by omega) (by omega),show Int.tdiv (((b - a:Nat)):Int) 4 = ((((b - a) / 4:Nat)):Int) from rfl,wI64 (n:=(((b - a) / 4:Nat):Int)) (by omega) (by omega),wI64 (n:=(((b - a) / 4:Nat):Int) * 2) (by omega) (by omega),wI64 (by omega) (by omega)];omega
 have eK:IntKind.i64.wrap ((a:Int) + IntKind.i64.wrap (IntKind.i64.wrap (Int.tdiv (IntKind.i64.wrap ((b:Int) - (a:Int))) 4) * 3)) = ((a + (b - a) / 4 * 3:Nat):Int):=by
  rw [wD (by omega) (by omega),show Int.tdiv (((b - a:Nat)):Int) 4 = ((((b - a) / 4:Nat)):Int) from rfl,wI64 (n:=(((b - a) / 4:Nat):Int)) (by omega) (by omega),wI64 (n:=(((b - a) / 4:Nat):Int) * 3) (by omega) (by omega),wI64 (by omega) (by omega)];omega
 have hm:=Go.Sort.median_mem lI d (a + (b - a) / 4) (a + (b - a) / 4 * 2) (a + (b - a) / 4 * 3) 0;have hc:=Go.Sort.median_count lI d (a + (b - a) / 4) (a + (b - a) / 4 * 2) (a + (b - a) / 4 * 3) 0;refine ⟨(Go.Sort.median lI d (a + (b - a) / 4) (a + (b - a) / 4 * 2) (a + (b - a) / 4 * 3) 0).1,if (Go.Sort.median lI d (a + (b - a) / 4) (a + (b - a) / 4 * 2) (a + (b - a) / 4 * 3) 0).2 = 0 then 1 else 0,?_,by omega,by omega,by split <;> decide⟩;unfold slices_choosePivotOrdered_uint16_o;rw [eI,eJ,eK,wD (by omega) (by omega),decide_eq_true (by omega),cond_true,decide_eq_false (by omega),cond_false,pure_bind];simp only [];rw [median_eq _ _ _ d (by omega) (by omega) (by omega),det_pure,pure_bind,pure_bind];simp only []
 generalize Go.Sort.median lI d (a + (b - a) / 4) (a + (b - a) / 4 * 2) (a + (b - a) / 4 * 3) 0 = r at *
 by_cases h0:r.2 = 0
 ·rw [decide_eq_true (by omega),cond_true,if_pos h0]
 ·rw [decide_eq_false (by omega),cond_false,decide_eq_false (by omega),cond_false,if_neg h0]

set_option maxRecDepth 20000
theorem len64_ex : ∃ T:List Int,((List.range 50).all fun n=>match T[n]? with | some v=>decide (0 ≤ v) && decide (v ≤ 6) && (decide (n < 8) || decide (2 ^ v.toNat ≤ 2 * n)) | none=>false) = true ∧ ∀ n:Nat,n < 50 → math_bits_Len64 (n:Int) = (idx T (n:Int)).bind fun b=>pure (IntKind.i64.wrap (0 + IntKind.i64.wrap b)):=by
 refine ⟨?T,?_,fun n hn=>?_⟩
 rotate_right
 ·unfold math_bits_Len64;rw [decide_eq_false (show ¬ (4294967296:Int) ≤ (n:Int) by omega),cond_false,pure_bind];simp only [];rw [decide_eq_false (show ¬ (65536:Int) ≤ (n:Int) by omega),cond_false,pure_bind];simp only [];rw [decide_eq_false (show ¬ (256:Int) ≤ (n:Int) by omega),cond_false,pure_bind];simp only [];rw [wU8 (show (0:Int) ≤ (n:Int) by omega) (by omega)]
 ·decide +kernel
theorem len_eq (n:Nat) (hn:n < 50):∃ v:Nat,math_bits_Len (n:Int) = pure (v:Int) ∧ v ≤ 6 ∧ (8 ≤ n → 2 ^ v ≤ 2 * n):=by
 obtain ⟨T,h1,h2⟩:=len64_ex;have h3:=List.all_eq_true.1 h1 n (List.mem_range.2 hn)
 cases hT:T[n]? with
 | none=>rw [hT] at h3;cases h3
 | some v=>
  rw [hT] at h3;simp only [Bool.and_eq_true,Bool.or_eq_true,decide_eq_true_eq] at h3;obtain ⟨⟨g0,g6⟩,g8⟩:=h3;refine ⟨v.toNat,?_,by omega,fun h8=>by rcases g8 with g | g;omega;exact g⟩;unfold math_bits_Len;rw [h2 n hn,idx_nat hT,pure_bind,det_pure,pure_bind,wI64 (n:=v) (by omega) (by omega),wI64 (by omega) (by omega)]
  congr 1
  omega

theorem bAnd_le {x y:Int} (h0:0 ≤ y) (h:y < 18446744073709551616):0 ≤ bAnd .u64 x y ∧ bAnd .u64 x y ≤ y:=by
 unfold bAnd;have h1:(BitVec.ofInt IntKind.u64.bits x &&& BitVec.ofInt IntKind.u64.bits y).toNat ≤ y.toNat:=by
  rw [BitVec.toNat_and];refine Nat.le_trans Nat.and_le_right ?_;simp only [IntKind.bits,BitVec.toNat_ofInt];omega
 rw [wU64 (by omega) (by omega)];omega
theorem bp0 (a b m:Nat) (hab:a + 8 ≤ b) (h50:b - a < 50) (hm:1 ≤ m ∧ m ≤ 2 * (b - a)):∀ (n i:Nat) (r:Int) (d:Array Int),a + (b - a) / 4 * 2 + 2 - i ≤ n → a ≤ i → i ≤ 1001 → b ≤ d.size → d.size ≤ 900 →
  ∃ d':Array Int,loop (slices_breakPatternsOrdered_uint16_o_l0 (a:Int) (b:Int) (m:Int)) ((i:Int),r,d.toList) = pure d'.toList ∧ Go.Sort.PermIn a b d d':=by
 have eJ:IntKind.i64.wrap (IntKind.i64.wrap ((a:Int) + IntKind.i64.wrap (IntKind.i64.wrap (Int.tdiv (IntKind.i64.wrap ((b:Int) - (a:Int))) 4) * 2)) + 1) = ((a + (b - a) / 4 * 2 + 1:Nat):Int) ∨ ¬ (b ≤ 900):=by
  by_cases h:b ≤ 900
  ·left
   rw [wD (by omega) (by omega),show Int.tdiv (((b - a:Nat)):Int) 4 = ((((b - a) / 4:Nat)):Int) from rfl,wI64 (n:=(((b - a) / 4:Nat):Int)) (by omega) (by omega),wI64 (n:=(((b - a) / 4:Nat):Int) * 2) (by omega) (by omega),wI64 (n:=(a:Int) + (((b - a) / 4:Nat):Int) * 2) (by omega) (by omega),wI64 (by omega) (by omega)];omega
  ·exact .inr h
 have stop:∀ (i:Nat) (r:Int) (d:Array Int),¬ i ≤ a + (b - a) / 4 * 2 + 1 → b ≤ d.size → d.size ≤ 900 →
  ∃ d':Array Int,loop (slices_breakPatternsOrdered_uint16_o_l0 (a:Int) (b:Int) (m:Int)) ((i:Int),r,d.toList) = pure d'.toList ∧ Go.Sort.PermIn a b d d':=fun i r d hi hb hN=>by
  have eJ:=eJ.resolve_right (by omega);refine ⟨d,loop_done ?_,Go.Sort.permIn_refl _ _ _⟩;unfold slices_breakPatternsOrdered_uint16_o_l0;simp only [];rw [eJ,decide_eq_false (by omega),cond_false]
 intro n
 induction n with
 | zero=>intro i r d hn ha hi hb hN;exact stop i r d (by omega) hb hN
 | succ n ih=>
  intro i r d hn ha hi hb hN
  by_cases hc:i ≤ a + (b - a) / 4 * 2 + 1
  ·have eJ:=eJ.resolve_right (by omega);have hx:∃ p q:Int,slices_xorshift_Next_o r = pure (p,q):=⟨_,_,rfl⟩
   obtain ⟨p,q,hx⟩:=hx;have hA:=bAnd_le (x:=p) (y:=(m:Int) - 1) (by omega) (by omega)
   generalize hz:bAnd .u64 p ((m:Int) - 1) = z at hA
   obtain ⟨k,rfl⟩:=Int.eq_ofNat_of_zero_le hA.1;have hex:∃ o:Nat,o < b - a ∧ (cond (decide ((((b - a:Nat)):Int) ≤ (k:Int))) (pure (IntKind.i64.wrap ((k:Int) - (((b - a:Nat)):Int)))) (pure (k:Int)):M Int) = pure (o:Int):=by
    by_cases h:b - a ≤ k
    ·exact ⟨k - (b - a),by omega,by rw [decide_eq_true (by omega),cond_true,wD h (by omega)]⟩
    ·exact ⟨k,by omega,by rw [decide_eq_false (by omega),cond_false]⟩
   obtain ⟨o,ho,he⟩:=hex;have hbd:slices_breakPatternsOrdered_uint16_o_l0 (a:Int) (b:Int) (m:Int) ((i:Int),r,d.toList) = pure (.next (((i + 1:Nat):Int),q,(Go.Sort.swp d i (a + o)).toList)):=by
    unfold slices_breakPatternsOrdered_uint16_o_l0;simp only [];rw [eJ,decide_eq_true (by omega),cond_true,hx,det_pure,pure_bind];simp only [];rw [wU64 (n:=(m:Int) - 1) (by omega) (by omega),hz,wI64 (n:=((k:Nat):Int)) (by omega) (by omega),wD (show a ≤ b by omega) (by omega),he,pure_bind,wA (by omega) (by omega),rd (show a + o < d.size by omega),pure_bind,rd (show i < d.size by omega),pure_bind,pure_bind,rdI (by simp;omega),setset,wS (by omega)]
   rw [loop_next hbd];obtain ⟨d',h1,h2⟩:=ih (i + 1) q (Go.Sort.swp d i (a + o)) (by omega) (by omega) (by omega) (by rw [Go.Sort.size_swp];exact hb) (by rw [Go.Sort.size_swp];exact hN);exact ⟨d',h1,Go.Sort.permIn_trans _ _ _ _ _ (Go.Sort.swp_permIn d a b i (a + o) ha (by omega) (by omega) (by omega) hb) h2⟩
  ·exact stop i r d hc hb hN
theorem bp_eq (a b:Nat) (d:Array Int) (hab:a + 8 ≤ b) (h50:b - a < 50) (hb:b ≤ d.size) (hN:d.size ≤ 900) :
  ∃ d':Array Int,slices_breakPatternsOrdered_uint16_o (a:Int) (b:Int) d.toList = pure d'.toList ∧ Go.Sort.PermIn a b d d':=by
 obtain ⟨v,h1,h2,h3⟩:=len_eq (b - a) h50;have hp:2 ^ v ≤ 64:=Nat.le_trans (Nat.pow_le_pow_right (by omega) h2) (by decide);have hp1:1 ≤ 2 ^ v:=Nat.one_le_two_pow;have e1:slices_nextPowerOfTwo (((b - a:Nat)):Int) = pure (((2 ^ v:Nat)):Int):=by
  unfold slices_nextPowerOfTwo;rw [wU64 (by omega) (by omega),h1,det_pure,pure_bind,need_true (by omega),Int.toNat_natCast,Nat.min_eq_left (by omega),Int.one_mul];rw [show ((2:Int) ^ v) = ((2 ^ v:Nat):Int) by simp,wU64 (by omega) (by omega)]
 have eI:IntKind.i64.wrap (IntKind.i64.wrap ((a:Int) + IntKind.i64.wrap (IntKind.i64.wrap (Int.tdiv (((b - a:Nat)):Int) 4) * 2)) - 1) = ((a + (b - a) / 4 * 2 - 1:Nat):Int):=by
  rw [show Int.tdiv (((b - a:Nat)):Int) 4 = ((((b - a) / 4:Nat)):Int) from rfl,wI64 (n:=(((b - a) / 4:Nat):Int)) (by omega) (by omega),wI64 (n:=(((b - a) / 4:Nat):Int) * 2) (by omega) (by omega),wI64 (n:=(a:Int) + (((b - a) / 4:Nat):Int) * 2) (by omega) (by omega),wI64 (by omega) (by omega)];omega
 unfold slices_breakPatternsOrdered_uint16_o;rw [wD (by omega) (by omega),decide_eq_true (by omega),cond_true,e1,det_pure,pure_bind,eI];exact bp0 a b (2 ^ v) hab h50 ⟨hp1,h3 (by omega)⟩ _ _ _ d (Nat.le_refl _) (by omega) (by omega) hb hN

abbrev Good (a b:Nat) (d d':Array Int):Prop:=Go.Sort.PermIn a b d d' ∧ Go.Sort.SortedIn lI a b d'
theorem pdq_round (self:Int → Int → Int → List Int → M (List Int)) (n:Nat)
  (hself:∀ (a b v:Nat) (d:Array Int),b - a < n → a ≤ b → b - a < 50 → b ≤ d.size → d.size ≤ 900 → v ≤ 1000 → Go.Sort.Below lI a b d → ∃ d':Array Int,self (a:Int) (b:Int) (v:Int) d.toList = pure d'.toList ∧ Good a b d d') :
  ∀ (k a b v:Nat) (wb wp:Bool) (d:Array Int),b - a ≤ k → b - a ≤ n → a ≤ b → b - a < 50 → b ≤ d.size → d.size ≤ 900 → v ≤ 1000 → Go.Sort.Below lI a b d →
   ∃ d':Array Int,loop (slices_pdqsortOrdered_uint16_o_l0 self) ((a:Int),(b:Int),(v:Int),wb,wp,d.toList) = pure d'.toList ∧ Good a b d d':=by
 intro k
 induction k with
 | zero=>
  intro a b v wb wp d hk hn hab h50 hb hN hv hB;have h:=Go.Sort.insertionSort_holds (lt:=lI) swoI d a b hab hb;refine ⟨Go.Sort.insertionSort lI d a b,loop_done ?_,h⟩;unfold slices_pdqsortOrdered_uint16_o_l0;simp only [];rw [wD hab (by omega),decide_eq_true (by omega),cond_true,ins_eq a b d hb hab hN,det_pure,pure_bind,need_true (by simpa using h.1.1)]
 | succ k ih=>
  intro a b v wb wp d hk hn hab h50 hb hN hv hB
  by_cases h12:b - a ≤ 12
  ·have h:=Go.Sort.insertionSort_holds (lt:=lI) swoI d a b hab hb;refine ⟨Go.Sort.insertionSort lI d a b,loop_done ?_,h⟩;unfold slices_pdqsortOrdered_uint16_o_l0;simp only [];rw [wD hab (by omega),decide_eq_true (by omega),cond_true,ins_eq a b d hb hab hN,det_pure,pure_bind,need_true (by simpa using h.1.1)]
  by_cases hv0:v = 0
  ·have h:=Go.Sort.heapSort_holds (lt:=lI) swoI d a b hab hb;refine ⟨Go.Sort.heapSort lI d a b,loop_done ?_,h⟩;unfold slices_pdqsortOrdered_uint16_o_l0;simp only [];rw [wD hab (by omega),decide_eq_false (by omega),cond_false,decide_eq_true (by omega),cond_true,heap_eq a b d (by omega) hb hN,det_pure,pure_bind,need_true (by simpa using h.1.1)]
  -- the patterns
  obtain ⟨d1,v1,e1,p1,hv1⟩:∃ (d1:Array Int) (v1:Nat),(cond (!wb) ((det (slices_breakPatternsOrdered_uint16_o (a:Int) (b:Int) d.toList)).bind fun y=>need (List.length y = List.length d.toList)<|pure (IntKind.i64.wrap ((v:Int) - 1),y)) (pure ((v:Int),d.toList)):M (Int × List Int)) = pure ((v1:Int),d1.toList) ∧ Go.Sort.PermIn a b d d1 ∧ v1 ≤ 1000:=by
   cases wb
   ·obtain ⟨d1,h1,h2⟩:=bp_eq a b d (by omega) h50 hb hN;exact ⟨d1,v - 1,by rw [Bool.not_false,cond_true,h1,det_pure,pure_bind,need_true (by simpa using h2.1),wP' (by omega) (by omega)],h2,by omega⟩
   ·exact ⟨d,v,rfl,Go.Sort.permIn_refl _ _ _,hv⟩
  have hb1:b ≤ d1.size:=by rw [p1.1];exact hb
  have hN1:d1.size ≤ 900:=by rw [p1.1];exact hN
  have hB1:Go.Sort.Below lI a b d1:=hB.perm hb p1;obtain ⟨pv,hint,e2,hp1,hp2,hh⟩:=choose_eq a b d1 (by omega) h50 hb1 hN1;have hps:=Go.Sort.partialInsertionSort_holds (lt:=lI) swoI d1 a b (by omega) hb1 hB1
  -- already sorted?
  obtain ⟨o,e3,h3⟩:∃ o:Ex (List Int) (Step (Int × Int × Int × Bool × Bool × List Int) (List Int)),(∀ c:Bool,c = (wb && (wp && decide (hint = 1))) → (cond c ((det (slices_partialInsertionSortOrdered_uint16_o (a:Int) (b:Int) d1.toList)).bind fun y=>need (List.length y.2 = List.length d1.toList)<|cond y.1 (pure (.ret (.done y.2))) (pure (.brk y.2))) (pure (.brk d1.toList))) = pure o) ∧
    ((∃ d':Array Int,o = .ret (.done d'.toList) ∧ Good a b d1 d') ∨ ∃ d3:Array Int,o = .brk d3.toList ∧ Go.Sort.PermIn a b d1 d3):=by
   cases hc:(wb && (wp && decide (hint = 1)))
   ·exact ⟨.brk d1.toList,fun c h=>by rw [h];rfl,.inr ⟨d1,rfl,Go.Sort.permIn_refl _ _ _⟩⟩
   ·cases hs:(Go.Sort.partialInsertionSort lI d1 a b).2
    ·exact ⟨.brk (Go.Sort.partialInsertionSort lI d1 a b).1.toList,fun c h=>by rw [h,cond_true,pi_eq a b d1 (by omega) h50 hb1 hN1,det_pure,pure_bind,need_true (by simpa using hps.1.1),hs,cond_false],.inr ⟨_,rfl,hps.1⟩⟩
    ·exact ⟨.ret (.done (Go.Sort.partialInsertionSort lI d1 a b).1.toList),fun c h=>by rw [h,cond_true,pi_eq a b d1 (by omega) h50 hb1 hN1,det_pure,pure_bind,need_true (by simpa using hps.1.1),hs,cond_true],.inl ⟨_,rfl,hps.1,hps.2 hs⟩⟩
  have ecc:(cond wb (cond wp (pure (decide (hint = 1))) (pure false)) (pure false):M Bool) = pure (wb && (wp && decide (hint = 1))):=by cases wb <;> cases wp <;> rfl
  rcases h3 with ⟨d',rfl,hg⟩ | ⟨d3,rfl,p3⟩
  ·refine ⟨d',loop_done ?_,Go.Sort.permIn_trans _ _ _ _ _ p1 hg.1,hg.2⟩;unfold slices_pdqsortOrdered_uint16_o_l0;simp only [];rw [wD hab (by omega),decide_eq_false (by omega),cond_false,decide_eq_false (by omega),cond_false,e1,pure_bind];simp only [];rw [e2,det_pure,pure_bind];simp only [];rw [decide_eq_false hh,cond_false,pure_bind];simp only [];rw [ecc,pure_bind,e3 _ rfl,pure_bind,exk_ret]
  have hb3:b ≤ d3.size:=by rw [p3.1];exact hb1
  have hN3:d3.size ≤ 900:=by rw [p3.1];exact hN1
  have hB3:Go.Sort.Below lI a b d3:=hB1.perm hb1 p3;have pA:Go.Sort.PermIn a b d d3:=Go.Sort.permIn_trans _ _ _ _ _ p1 p3;have ecd:(cond (decide (0 < (a:Int))) ((idx d3.toList (IntKind.i64.wrap ((a:Int) - 1))).bind fun x=>(idx d3.toList (pv:Int)).bind fun y=>(det (cmp_Less_uint16 x y)).bind fun v=>pure (!v)) (pure false):M Bool) = pure (decide (a > 0) && !lI d3[a - 1]! d3[pv]!):=by
   by_cases h:a > 0
   ·rw [decide_eq_true (show (0:Int) < (a:Int) by omega),cond_true,wP' (by omega) (by omega),rd (show a - 1 < d3.size by omega),pure_bind,rd (show pv < d3.size by omega),pure_bind,less_eq,det_pure,pure_bind];simp only [h,decide_true,Bool.true_and]
   ·rw [decide_eq_false (show ¬ (0:Int) < (a:Int) by omega),cond_false];simp only [h,decide_false,Bool.false_and]
  have hbody:slices_pdqsortOrdered_uint16_o_l0 self ((a:Int),(b:Int),(v:Int),wb,wp,d.toList) =
    cond (decide (a > 0) && !lI d3[a - 1]! d3[pv]!)
     ((det (slices_partitionEqualOrdered_uint16_o (a:Int) (b:Int) (pv:Int) d3.toList)).bind fun y=>need (List.length y.2 = List.length d3.toList)<|pure (.next (y.1,(b:Int),(v1:Int),wb,wp,y.2)))
     ((det (slices_partitionOrdered_uint16_o (a:Int) (b:Int) (pv:Int) d3.toList)).bind fun y=>need (List.length y.2.2 = List.length d3.toList) <|
      cond (decide (IntKind.i64.wrap (y.1 - (a:Int)) < IntKind.i64.wrap ((b:Int) - y.1)))
       ((det (self (a:Int) y.1 (v1:Int) y.2.2)).bind fun z=>need (List.length z = List.length d3.toList)<|pure (.next (IntKind.i64.wrap (y.1 + 1),(b:Int),(v1:Int),decide (IntKind.i64.wrap (Int.tdiv (IntKind.i64.wrap ((b:Int) - (a:Int))) 8) ≤ IntKind.i64.wrap (y.1 - (a:Int))),y.2.1,z)))
       ((det (self (IntKind.i64.wrap (y.1 + 1)) (b:Int) (v1:Int) y.2.2)).bind fun z=>need (List.length z = List.length d3.toList)<|pure (.next ((a:Int),y.1,(v1:Int),decide (IntKind.i64.wrap (Int.tdiv (IntKind.i64.wrap ((b:Int) - (a:Int))) 8) ≤ IntKind.i64.wrap ((b:Int) - y.1)),y.2.1,z)))):=by
   unfold slices_pdqsortOrdered_uint16_o_l0;simp only [];rw [decide_eq_false (show ¬ IntKind.i64.wrap ((b:Int) - (a:Int)) ≤ 12 by rw [wD hab (by omega)];omega),cond_false,decide_eq_false (by omega),cond_false,e1,pure_bind];simp only [];rw [e2,det_pure,pure_bind];simp only [];rw [decide_eq_false hh,cond_false,pure_bind];simp only [];rw [ecc,pure_bind,e3 _ rfl,pure_bind,exk_brk,ecd,pure_bind]
  cases hc:(decide (a > 0) && !lI d3[a - 1]! d3[pv]!)
  ·-- partition
   have hx:Go.Sort.partition lI d3 a b pv = ((Go.Sort.partition lI d3 a b pv).1,(Go.Sort.partition lI d3 a b pv).2.1,(Go.Sort.partition lI d3 a b pv).2.2):=rfl;have hr:=Go.Sort.round_part (lt:=lI) swoI (Go.Sort.partition_holds _) hp1 hp2 hb3 hB3 hx;have he:=part_eq a b pv d3 hp1 hp2 hb3 hN3
   generalize (Go.Sort.partition lI d3 a b pv).1 = mid at hr he
   generalize (Go.Sort.partition lI d3 a b pv).2.1 = ap at hr he
   generalize (Go.Sort.partition lI d3 a b pv).2.2 = d4 at hr he
   obtain ⟨m1,m2,hs4,hBl,hBr,hL,hR⟩:=hr
   by_cases hlr:mid - a < b - mid
   ·obtain ⟨L,hl1,hl2⟩:=hself a mid v1 d4 (by omega) m1 (by omega) (by omega) (by omega) hv1 hBl;obtain ⟨hBL,hfin⟩:=hL L hl2.1 hl2.2;have hLs:L.size = d3.size:=by rw [hl2.1.1,hs4]
    obtain ⟨R,hr1,hr2⟩:=ih (mid + 1) b v1 (decide (IntKind.i64.wrap (Int.tdiv (IntKind.i64.wrap ((b:Int) - (a:Int))) 8) ≤ IntKind.i64.wrap ((mid:Int) - (a:Int)))) ap L (by omega) (by omega) (by omega) (by omega) (by omega) (by omega) hv1 hBL;have hf:=hfin R hr2.1 hr2.2;refine ⟨R,?_,Go.Sort.permIn_trans _ _ _ _ _ pA hf.1,hf.2⟩;rw [loop_next (s':=(((mid + 1:Nat):Int),(b:Int),(v1:Int),decide (IntKind.i64.wrap (Int.tdiv (IntKind.i64.wrap ((b:Int) - (a:Int))) 8) ≤ IntKind.i64.wrap ((mid:Int) - (a:Int))),ap,L.toList)) (by
     rw [hbody,hc,cond_false,he,det_pure,pure_bind,need_true (by simpa using hs4),decide_eq_true (by rw [wD m1 (by omega),wD (by omega) (by omega)];omega),cond_true,hl1,det_pure,pure_bind,need_true (by simpa using hLs),wS (by omega)])]
    exact hr1
   ·obtain ⟨L,hl1,hl2⟩:=hself (mid + 1) b v1 d4 (by omega) (by omega) (by omega) (by omega) (by omega) hv1 hBr;obtain ⟨hBL,hfin⟩:=hR L hl2.1 hl2.2;have hLs:L.size = d3.size:=by rw [hl2.1.1,hs4]
    obtain ⟨R,hr1,hr2⟩:=ih a mid v1 (decide (IntKind.i64.wrap (Int.tdiv (IntKind.i64.wrap ((b:Int) - (a:Int))) 8) ≤ IntKind.i64.wrap ((b:Int) - (mid:Int)))) ap L (by omega) (by omega) m1 (by omega) (by omega) (by omega) hv1 hBL;have hf:=hfin R hr2.1 hr2.2;refine ⟨R,?_,Go.Sort.permIn_trans _ _ _ _ _ pA hf.1,hf.2⟩;rw [loop_next (s':=((a:Int),(mid:Int),(v1:Int),decide (IntKind.i64.wrap (Int.tdiv (IntKind.i64.wrap ((b:Int) - (a:Int))) 8) ≤ IntKind.i64.wrap ((b:Int) - (mid:Int))),ap,L.toList)) (by
     rw [hbody,hc,cond_false,he,det_pure,pure_bind,need_true (by simpa using hs4),decide_eq_false (by rw [wD m1 (by omega),wD (by omega) (by omega)];omega),cond_false,wS (by omega),hl1,det_pure,pure_bind,need_true (by simpa using hLs)])]
    exact hr1
  ·-- partitionEqual
   obtain ⟨c1,c2⟩:=(Bool.and_eq_true _ _).mp hc;have c1:=of_decide_eq_true c1;have c2:lI d3[a - 1]! d3[pv]! = false:=by simpa using c2
   have hx:Go.Sort.partitionEqual lI d3 a b pv = ((Go.Sort.partitionEqual lI d3 a b pv).1,(Go.Sort.partitionEqual lI d3 a b pv).2):=rfl;have hr:=Go.Sort.round_eq (lt:=lI) swoI (Go.Sort.partitionEqual_holds _) c1 hp1 hp2 hb3 hB3 c2 hx;have he:=pe_eq a b pv d3 hp1 hp2 hb3 hN3
   generalize (Go.Sort.partitionEqual lI d3 a b pv).1 = mid at hr he
   generalize (Go.Sort.partitionEqual lI d3 a b pv).2 = d4 at hr he
   obtain ⟨m1,m2,hs4,hB4,hfin⟩:=hr;obtain ⟨R,hr1,hr2⟩:=ih mid b v1 wb wp d4 (by omega) (by omega) m2 (by omega) (by omega) (by omega) hv1 hB4;have hf:=hfin R hr2.1 hr2.2;refine ⟨R,?_,Go.Sort.permIn_trans _ _ _ _ _ pA hf.1,hf.2⟩;rw [loop_next (s':=((mid:Int),(b:Int),(v1:Int),wb,wp,d4.toList)) (by
    rw [hbody,hc,cond_true,he,det_pure,pure_bind,need_true (by simpa using hs4)])]
   exact hr1
theorem pdq_F : ∀ (n a b v:Nat) (d:Array Int),b - a < n → a ≤ b → b - a < 50 → b ≤ d.size → d.size ≤ 900 → v ≤ 1000 → Go.Sort.Below lI a b d →
  ∃ d':Array Int,slices_pdqsortOrdered_uint16_o_F n (a:Int) (b:Int) (v:Int) d.toList = pure d'.toList ∧ Good a b d d'
 | 0,_,_,_,_,h,_,_,_,_,_,_=>by omega
 | n + 1,a,b,v,d,h,hab,h50,hb,hN,hv,hB=>by
  unfold slices_pdqsortOrdered_uint16_o_F slices_pdqsortOrdered_uint16_o_b;exact pdq_round _ n (fun a b v d h hab h50 hb hN hv hB=>pdq_F n a b v d h hab h50 hb hN hv hB) _ a b v true true d (Nat.le_refl _) (by omega) hab h50 hb hN hv hB
theorem sort_eq (l:List Int) (h:l.length < 50):∃ l':List Int,slices_Sort_sl_uint16_uint16_o l = pure l' ∧ l'.Perm l ∧ l'.Pairwise fun x y=>x ≤ y:=by
 obtain ⟨v,h1,h2,_⟩:=len_eq l.length h;obtain ⟨d',h3,hp,hs⟩:=pdq_F (l.length + 1) 0 l.length v l.toArray (by omega) (by omega) (by omega) (by simp) (by simp;omega) (by omega) (.inl rfl);have hz:d'.size = l.length:=by rw [hp.1];simp
 refine ⟨d'.toList,?_,?_,?_⟩
 ·unfold slices_Sort_sl_uint16_uint16_o slices_pdqsortOrdered_uint16_o;rw [wU64 (by omega) (by omega),h1,det_pure,pure_bind,show Int.toNat ((l.length:Int) - 0) + 1 = l.length + 1 by omega];have h3':slices_pdqsortOrdered_uint16_o_F (l.length + 1) 0 (l.length:Int) (v:Int) l = pure d'.toList:=h3;rw [h3',det_pure,pure_bind,need_true (by simpa using hz)]
 ·have:=hp.2.2;rw [show d'.extract 0 l.length = d' by rw [← hz];simp,show l.toArray.extract 0 l.length = l.toArray by simp] at this;simpa using this
 ·rw [List.pairwise_iff_getElem];intro i j hi hj hij;have hi':i < d'.size:=by simpa using hi
  have hj':j < d'.size:=by simpa using hj
  have h5:=hs i j (by omega) hij (by omega);rw [getElem!_pos d' i hi',getElem!_pos d' j hj'] at h5;have h6:¬ d'[j] < d'[i]:=of_decide_eq_false h5;simp only [Array.getElem_toList];omega
end Go.Ep.M.I

namespace Go.Ep.M.J
open Go

section
variable {κ ν:Type} [DecidableEq κ]
theorem mem_iff_get {m:List (κ × ν)} (hn:(m.map (·.1)).Nodup) {k:κ} {v:ν}:(k,v) ∈ m ↔ AL.get m k = some v:=⟨AL.mem_get hn,AL.get_mem⟩
theorem mem_set {m:List (κ × ν)} (hn:(m.map (·.1)).Nodup) {k q:κ} {v u:ν}:(q,u) ∈ AL.set m k v ↔ (q = k ∧ u = v) ∨ (q ≠ k ∧ (q,u) ∈ m):=by
 rw [mem_iff_get (AL.nodup_set hn k v),AL.get_set,mem_iff_get hn]
 by_cases h:k = q
 ·subst h;simp [eq_comm]
 ·have h':q ≠ k:=fun e=>h e.symm
  simp [h,h']
theorem del_sub (m:List (κ × ν)) (x:κ):(AL.del m x).Sublist m:=by
 induction m with
 | nil=>exact List.Sublist.slnil
 | cons e r ih=>
  obtain ⟨a,u⟩:=e;unfold AL.del
  split
  ·exact List.sublist_cons_self _ _
  ·exact ih.cons_cons _
theorem nodup_del {m:List (κ × ν)} (hn:(m.map (·.1)).Nodup) (x:κ):((AL.del m x).map (·.1)).Nodup:=hn.sublist ((del_sub m x).map _)
theorem mem_del {m:List (κ × ν)} (hn:(m.map (·.1)).Nodup) {k q:κ} {u:ν}:(q,u) ∈ AL.del m k ↔ q ≠ k ∧ (q,u) ∈ m:=by
 induction m with
 | nil=>simp [AL.del]
 | cons e r ih=>
  obtain ⟨a,v⟩:=e;simp only [List.map_cons,List.nodup_cons] at hn;unfold AL.del
  split
  ·rename_i h
   subst h;have:∀ w,(a,w) ∉ r:=fun w hw=>hn.1 (List.mem_map.2 ⟨_,hw,rfl⟩)
   constructor
   ·intro h1;refine ⟨fun e=>?_,List.mem_cons_of_mem _ h1⟩;subst e;exact this _ h1
   ·rintro ⟨h1,h2⟩;rcases List.mem_cons.1 h2 with h3 | h3
    ·cases h3;exact absurd rfl h1
    ·exact h3
  ·rename_i h
   rw [List.mem_cons,List.mem_cons,ih hn.2]
   constructor
   ·rintro (h1 | ⟨h1,h2⟩)
    ·cases h1;exact ⟨h,.inl rfl⟩
    ·exact ⟨h1,.inr h2⟩
   ·rintro ⟨h1,h2 | h2⟩
    ·exact .inl h2
    ·exact .inr ⟨h1,h2⟩
end

theorem nf_starts : ∀ {l:List TRun},R.Nf l → ∀ x ∈ l,R.hasR l x.lo = true ∧ R.hasR l (x.lo - 1) = false
 | [],_,x,hx=>by cases hx
 | y :: r,h,x,hx=>by
  obtain ⟨h1,h2,h3⟩:=h;have hy:=R.mayR_iff.1 h1;rcases List.mem_cons.1 hx with rfl | hx
  ·refine ⟨R.nf_head ⟨h1,h2,h3⟩,Bool.eq_false_iff.2 fun hc=>?_⟩;have:=R.nf_least ⟨h1,h2,h3⟩ hc;omega
  ·obtain ⟨g1,g2⟩:=nf_starts h3 x hx;have:=h2 x hx;refine ⟨by rw [R.hasR_cons,g1,Bool.or_true],?_⟩;rw [R.hasR_cons,g2,Bool.or_false];refine Bool.eq_false_iff.2 fun hc=>?_
   have:=(R.inR_iff.1 hc).2;omega
theorem nf_nodup : ∀ {l:List TRun},R.Nf l → (l.map (·.lo)).Nodup
 | [],_=>List.nodup_nil
 | y :: r,h=>by
  obtain ⟨h1,h2,h3⟩:=h;have hy:=R.mayR_iff.1 h1;rw [List.map_cons,List.nodup_cons];refine ⟨fun hc=>?_,nf_nodup h3⟩;obtain ⟨z,hz,e⟩:=List.mem_map.1 hc;have:=h2 z hz;omega
theorem start_mem {a:List TRun} {n:Int} (h1:R.hasR a n = true) (h2:R.hasR a (n - 1) = false):n ∈ a.map (·.lo):=by
 obtain ⟨x,hx,g1,g2,g3⟩:=R.hasR_iff.1 h1
 by_cases h:x.lo = n
 ·exact List.mem_map.2 ⟨x,hx,h⟩
 ·have:R.hasR a (n - 1) = true:=R.hasR_iff.2 ⟨x,hx,g1,by omega,by omega⟩;rw [h2] at this;cases this
def Mon (op:Bool → Bool → Bool):Prop:=op false false = false ∧ ∀ p q p' q',op p q = true → op p' q' = false → (p = true ∧ p' = false) ∨ (q = true ∧ q' = false)
theorem mon_or : Mon (· || ·):=⟨rfl,by decide⟩
theorem mon_and : Mon (· && ·):=⟨rfl,by decide⟩
theorem len_setR {op:Bool → Bool → Bool} (h:Mon op) (a b:List TRun):(R.setR op a b).length ≤ a.length + b.length:=by
 obtain ⟨h1,h2,_⟩:=R.setR_props op h.1 a b;have:=List.Nodup.length_le_of_subset (nf_nodup h1) (l₂:=a.map (·.lo) ++ b.map (·.lo)) (fun n hn=>by
  obtain ⟨x,hx,rfl⟩:=List.mem_map.1 hn;obtain ⟨g1,g2⟩:=nf_starts h1 x hx;rw [h2] at g1 g2;rcases h.2 _ _ _ _ g1 g2 with ⟨e1,e2⟩ | ⟨e1,e2⟩
  ·exact List.mem_append_left _ (start_mem e1 e2)
  ·exact List.mem_append_right _ (start_mem e1 e2))
 simpa using this
theorem sum_add (ks:List Int) (f g:Int → Nat):(ks.map fun k=>f k + g k).sum = (ks.map f).sum + (ks.map g).sum:=by
 induction ks with
 | nil=>rfl
 | cons k r ih=>simp only [List.map_cons,List.sum_cons,ih];omega
theorem tot_op {op:Bool → Bool → Bool} (h:Mon op) (a b:List TPart):C.totC (C.opC op a b) ≤ C.totC a + C.totC b:=by
 unfold C.opC;rw [C.tot_partsOf];refine Nat.le_trans (C.sum_le fun k=>len_setR h (C.rawC a k) (C.rawC b k)) ?_;rw [sum_add];have h1:=C.rawC_sum a (C.devsC (a ++ b)) (C.devs_nodup _);have h2:=C.rawC_sum b (C.devsC (a ++ b)) (C.devs_nodup _);omega
theorem canon_len : ∀ {c:List TPart},(∀ p ∈ c,p.runs ≠ []) → c.length ≤ C.totC c
 | [],_=>Nat.zero_le _
 | p :: r,h=>by
  have h1:=canon_len (c:=r) fun q hq=>h q (List.mem_cons_of_mem _ hq)
  have h2:=h p List.mem_cons_self;have h3:0 < p.runs.length:=by cases hp:p.runs with | nil=>exact absurd hp h2 | cons _ _=>simp
  have h4:C.totC (p :: r) = p.runs.length + C.totC r:=by simp [C.totC]
  rw [List.length_cons];omega
theorem canon_ok {c:List TPart} (h:C.Canon c) (ht:C.totC c ≤ 100000000):C.Ok c:=⟨fun p hp=>by have:=(h.nf p hp).1;omega,by have:=canon_len fun p hp=>(h.nf p hp).2.1;omega,by omega⟩
theorem rawC_perm {c d:List TPart} (h:c.Perm d) (k:Int):(C.rawC c k).Perm (C.rawC d k):=(h.filter _).flatMap_right _
theorem hasC_perm {c d:List TPart} (h:c.Perm d) (k n:Int):C.hasC c k n = C.hasC d k n:=R.hasR_perm (rawC_perm h k) n
theorem totC_perm {c d:List TPart} (h:c.Perm d):C.totC c = C.totC d:=(h.map _).sum_nat
theorem hasC_zero (l:List TRun) (c:List TPart) (k n:Int):C.hasC (⟨0,l⟩ :: c) k n = C.hasC c k n:=by
 unfold C.hasC;rw [C.rawC_cons,if_neg (fun h=>by have h1:(0:Int) = k:=h.1;omega)];rfl
theorem part_has {c:List TPart} (h:C.Canon c) {p:TPart} (hp:p ∈ c):∃ n,C.hasC c p.dev n = true:=by
 obtain ⟨h1,h2,h3⟩:=h.nf p hp
 cases hr:p.runs with
 | nil=>exact absurd hr h2
 | cons x r=>
  rw [hr] at h3;exact ⟨x.lo,by unfold C.hasC;rw [C.ordP_raw h.ord p hp h1,hr];exact R.nf_head h3⟩
theorem has_dev {c:List TPart} {k n:Int} (h:C.hasC c k n = true):∃ p ∈ c,p.dev = k:=by
 have h1:C.rawC c k ≠ []:=fun e=>by unfold C.hasC at h;rw [e] at h;cases h
 exact (C.mem_devs.1 (C.raw_devs h1)).1

def isW (x:List R25Row) (w:Int):Bool:=x.any fun r=>decide (r.who = w)
def getW (x:List R25Row) (w:Int):List TPart:=match x.find? fun r=>decide (r.who = w) with | some r=>r.c | none=>[]
abbrev Srt (x:List R25Row):Prop:=x.Pairwise fun a b=>a.who < b.who
theorem isW_iff {x:List R25Row} {w:Int}:isW x w = true ↔ ∃ r ∈ x,r.who = w:=by simp [isW]
theorem srt_one {x:List R25Row} (h:Srt x) {r s:R25Row} (hr:r ∈ x) (hs:s ∈ x) (e:r.who = s.who):r = s:=by
 induction x with
 | nil=>cases hr
 | cons y z ih=>
  obtain ⟨h1,h2⟩:=List.pairwise_cons.1 h;rcases List.mem_cons.1 hr with e1 | hr <;> rcases List.mem_cons.1 hs with e2 | hs
  ·rw [e1,e2]
  ·have:=h1 s hs;rw [← e,e1] at this;omega
  ·have:=h1 r hr;rw [e,e2] at this;omega
  ·exact ih h2 hr hs
theorem getW_mem {x:List R25Row} (h:Srt x) {r:R25Row} (hr:r ∈ x):getW x r.who = r.c:=by
 unfold getW
 cases hf:x.find? fun s=>decide (s.who = r.who) with
 | none=>exact absurd (by simp) (List.find?_eq_none.1 hf r hr)
 | some s=>
  have h1:=List.find?_some hf;rw [srt_one h (List.mem_of_find?_eq_some hf) hr (of_decide_eq_true h1)]
theorem getW_none {x:List R25Row} {w:Int} (h:isW x w = false):getW x w = []:=by
 unfold getW
 cases hf:x.find? fun s=>decide (s.who = w) with
 | none=>rfl
 | some s=>
  have h1:=List.find?_some hf;rw [isW_iff.2 ⟨s,List.mem_of_find?_eq_some hf,of_decide_eq_true h1⟩] at h;cases h
abbrev Mx:=List ((Int × Int) × List TRun)
structure Rep (B n:Nat) (nl:Bool) (m:Mx) (x:List R25Row):Prop where
 nd:(m.map (·.1)).Nodup
 mem:∀ w k l,((w,k),l) ∈ m ↔ ∃ r ∈ x,r.who = w ∧ ((k = 0 ∧ l = []) ∨ (⟨k,l⟩:TPart) ∈ r.c)
 srt:Srt x
 can:∀ r ∈ x,C.Canon r.c
 tot:∀ r ∈ x,C.totC r.c ≤ B
 len:x.length ≤ n
 nil:nl = true → m = []
theorem rep_nil (B n:Nat):Rep B n true [] []:=⟨List.nodup_nil,fun w k l=>by simp,List.Pairwise.nil,fun r h=>by simp at h,fun r h=>by simp at h,Nat.zero_le _,fun _=>rfl⟩
section
variable {B n:Nat} {nl:Bool} {m:Mx} {x:List R25Row} (hR:Rep B n nl m x)
include hR
theorem Rep.up {B' n':Nat} (h1:B ≤ B') (h2:n ≤ n'):Rep B' n' nl m x:={ hR with tot:=fun r hr=>Nat.le_trans (hR.tot r hr) h1,len:=Nat.le_trans hR.len h2 }
theorem Rep.is (w:Int):ack_Matrix_is_o w nl m = pure (isW x w):=by
 unfold ack_Matrix_is_o;refine congrArg pure ?_;rw [Bool.eq_iff_iff,isW_iff];unfold AL.has
 constructor
 ·intro h;obtain ⟨l,hl⟩:=Option.isSome_iff_exists.1 h;obtain ⟨r,hr,e,_⟩:=(hR.mem w 0 l).1 (AL.get_mem hl);exact ⟨r,hr,e⟩
 ·rintro ⟨r,hr,e⟩;rw [AL.mem_get hR.nd ((hR.mem w 0 []).2 ⟨r,hr,e,.inl ⟨rfl,rfl⟩⟩)];rfl
theorem Rep.put (w k:Int) (l:List TRun):ack_Matrix_put_o w k l nl m = pure (false,AL.set m (w,k) l):=by
 unfold ack_Matrix_put_o
 cases h:nl with
 | false=>rfl
 | true=>rw [hR.nil h];rfl
end

def rowF (w:Int) (e:(Int × Int) × List TRun):Option TPart:=if e.1.1 = w then some ⟨e.1.2,e.2⟩ else none
theorem row_loop (w:Int) (m:Mx) (hl:m.length ≤ 1000000000000) {Q:List TPart → Prop} (hQ:∀ c,c.Perm (m.filterMap (rowF w)) → Q c):(loop (ack_Matrix_Row_o_l0 m w) ([],([]:List TPart))).wp Q:=by
 refine M.loopM m (fun L (t:List TPart)=>(L,t)) (fun t e=>cond (decide (e.1.1 = w)) (need ((t.length + 1) * 32 ≤ 140737488355328) (pure (t ++ [⟨e.1.2,e.2⟩]))) (pure t)) (fun t=>pure t)
  (fun l t=>t = l.filterMap (rowF w)) Q (fun L t hL=>?_) (fun l t y ht hlen hy=>?_) (fun l t hp ht=>?_) [] rfl
 ·show need _ ((nxt _ _).bind _) = need _ ((nxt _ _).bind _);refine congrArg (fun k=>need _ ((nxt _ _).bind k)) (funext fun o=>?_)
  cases o with
  | none=>rfl
  | some i=>
   refine congrArg (fun k=>(idx m (Int.ofNat i)).bind k) (funext fun y=>?_);show cond _ _ _ = M.bind (cond _ _ _) _;rw [bind_cond];rfl
 ·by_cases h:y.1.1 = w
  ·refine ⟨t ++ [⟨y.1.2,y.2⟩],?_,?_⟩
   ·have hb:t.length ≤ l.length:=by rw [ht];exact List.length_filterMap_le _ _
    rw [decide_eq_true h,cond_true,need_true (by omega)]
   ·rw [ht,List.filterMap_append];simp [rowF,h]
  ·refine ⟨t,by rw [decide_eq_false h,cond_false],?_⟩;rw [ht,List.filterMap_append];simp [rowF,h]
 ·refine hQ t ?_;rw [ht];exact hp.filterMap _
section
variable {B n:Nat} {nl:Bool} {m:Mx} {x:List R25Row} (hR:Rep B n nl m x)
include hR
theorem Rep.rowL (w:Int):(m.filterMap (rowF w)).Perm (if isW x w then ⟨0,[]⟩ :: getW x w else []):=by
 have hnd:(m.filterMap (rowF w)).Nodup:=by
  have h1:m.Pairwise fun a b=>a.1 ≠ b.1:=by
   have:=hR.nd;rw [List.Nodup,List.pairwise_map] at this;exact this
  refine List.Pairwise.filterMap (rowF w) (fun a b hab p hp q hq=>?_) h1;unfold rowF at hp hq
  split at hp
  ·split at hq
   ·rename_i e1 e2
    cases hp;cases hq
    intro e
    injection e with e3 e4
    exact hab (Prod.ext (e1.trans e2.symm) e3)
   ·cases hq
  ·cases hp
 have hmem:∀ p:TPart,p ∈ m.filterMap (rowF w) ↔ ((w,p.dev),p.runs) ∈ m:=fun p=>by
  rw [List.mem_filterMap]
  constructor
  ·rintro ⟨e,he,h⟩;unfold rowF at h
   split at h
   ·rename_i hw
    cases h
    rw [← hw];exact he
   ·cases h
  ·intro h;exact ⟨_,h,by simp [rowF]⟩
 by_cases hw:isW x w = true
 ·rw [if_pos hw];obtain ⟨r,hr,rfl⟩:=isW_iff.1 hw;have hc:=hR.can r hr;rw [getW_mem hR.srt hr];refine (List.perm_ext_iff_of_nodup hnd ?_).2 fun p=>?_
  ·rw [List.nodup_cons];refine ⟨fun h=>?_,hc.ord.imp fun {a b} h e=>by rw [e] at h;omega⟩;have:=(hc.nf _ h).1;simp at this
  ·rw [hmem,hR.mem,List.mem_cons]
   constructor
   ·rintro ⟨s,hs,e,h⟩;rw [srt_one hR.srt hs hr e] at h;rcases h with ⟨h1,h2⟩ | h
    ·left;cases p;simp at h1 h2;simp [h1,h2]
    ·right;exact h
   ·rintro (rfl | h)
    ·exact ⟨r,hr,rfl,.inl ⟨rfl,rfl⟩⟩
    ·exact ⟨r,hr,rfl,.inr h⟩
 ·rw [if_neg hw];have:m.filterMap (rowF w) = []:=by
   refine List.eq_nil_iff_forall_not_mem.2 fun p hp=>?_
   obtain ⟨r,hr,e,_⟩:=(hR.mem _ _ _).1 ((hmem p).1 hp);exact hw (isW_iff.2 ⟨r,hr,e⟩)
  rw [this]
theorem Rep.getC (w:Int):C.Canon (getW x w) ∧ C.totC (getW x w) ≤ B:=by
 by_cases hw:isW x w = true
 ·obtain ⟨r,hr,rfl⟩:=isW_iff.1 hw;rw [getW_mem hR.srt hr];exact ⟨hR.can r hr,hR.tot r hr⟩
 ·rw [getW_none (by simpa using hw)];exact ⟨C.canon_nil,Nat.zero_le _⟩
theorem Rep.row (hB:B ≤ 100000000) (hm:m.length ≤ 1000000000000) (w:Int):ack_Matrix_Row_o w nl m = pure (getW x w):=by
 refine eq_pure ?_;unfold ack_Matrix_Row_o;refine row_loop w m hm fun c hc=>?_
 have h1:=hc.trans (hR.rowL w);obtain ⟨g1,g2⟩:=hR.getC w;have gl:=canon_len fun p hp=>(g1.nf p hp).2.1
 have hsm:C.Sm c:=by
  by_cases hw:isW x w = true
  ·rw [if_pos hw] at h1;refine ⟨by have:=h1.length_eq;rw [List.length_cons] at this;omega,?_⟩;rw [totC_perm h1];simp only [C.totC,List.map_cons,List.length_nil,List.sum_cons,Nat.zero_add] at g2 ⊢;omega
  ·rw [if_neg hw] at h1;rw [h1.eq_nil];exact ⟨by simp,by simp [C.totC]⟩
 have hn:C.normC c = getW x w:=by
  have h2:C.normC c = C.normC (getW x w):=C.normC_ext fun k q=>by
   rw [hasC_perm h1]
   by_cases hw:isW x w = true
   ·rw [if_pos hw,hasC_zero]
   ·rw [if_neg hw,getW_none (by simpa using hw)]
  rw [h2,C.norm_canon g1]
 show ((det (ctx_Norm c)).bind _).wp _;rw [C.Norm_eq c hsm,det_pure,pure_bind,hn]
 rfl
end


section
variable {B n:Nat} {nl:Bool} {m:Mx} {x:List R25Row} (hR:Rep B n nl m x)
include hR
theorem Rep.mlen : m.length ≤ n * (B + 1):=by
 have h1:m.Nodup:=by
  have:=hR.nd;rw [List.Nodup,List.pairwise_map] at this;exact this.imp fun h e=>h (congrArg _ e)
 have h2:=List.Nodup.length_le_of_subset h1 (l₂:=x.flatMap fun r=>((r.who,0),[]) :: r.c.map fun p=>((r.who,p.dev),p.runs)) (fun e he=>by
  obtain ⟨⟨w,k⟩,l⟩:=e;obtain ⟨r,hr,e1,h⟩:=(hR.mem w k l).1 he;rw [List.mem_flatMap];refine ⟨r,hr,?_⟩;subst e1;rcases h with ⟨rfl,rfl⟩ | h
  ·exact List.mem_cons_self
  ·exact List.mem_cons_of_mem _ (List.mem_map.2 ⟨_,h,rfl⟩))
 have h3:∀ z:List R25Row,(∀ r ∈ z,r.c.length ≤ B) → (z.flatMap fun r=>(((r.who,0),[]):(Int × Int) × List TRun) :: r.c.map fun p=>((r.who,p.dev),p.runs)).length ≤ z.length * (B + 1):=by
  intro z
  induction z with
  | nil=>intro _;simp
  | cons r z ih=>
   intro hz;have h4:=ih fun s hs=>hz s (List.mem_cons_of_mem _ hs)
   have h5:=hz r List.mem_cons_self;rw [List.flatMap_cons,List.length_append,List.length_cons,List.length_map,List.length_cons,Nat.succ_mul];omega
 have h4:=h3 x fun r hr=>by have:=canon_len fun p hp=>((hR.can r hr).nf p hp).2.1;have:=hR.tot r hr;omega
 exact Nat.le_trans h2 (Nat.le_trans h4 (Nat.mul_le_mul_right _ hR.len))
theorem Rep.Row (hS:n ≤ 1000 ∧ B ≤ 100000000) (w:Int):ack_Matrix_Row_o w nl m = pure (getW x w):=by
 refine hR.row hS.2 (Nat.le_trans hR.mlen ?_) w
 calc n * (B + 1) ≤ 1000 * (B + 1):=Nat.mul_le_mul_right _ hS.1
  _ ≤ 1000000000000:=by omega
end

def insW (x:List R25Row) (w:Int):List R25Row:=x.filter (fun r=>decide (r.who < w)) ++ ⟨w,[]⟩ :: x.filter (fun r=>decide (w < r.who))
def joinR (x:List R25Row) (w:Int):List R25Row:=if w = 0 ∨ isW x w = true then x else insW x w
theorem mem_insW {x:List R25Row} {w:Int} (h:isW x w = false) {r:R25Row}:r ∈ insW x w ↔ r ∈ x ∨ r = ⟨w,[]⟩:=by
 unfold insW;rw [List.mem_append,List.mem_cons,List.mem_filter,List.mem_filter,decide_eq_true_eq,decide_eq_true_eq]
 constructor
 ·rintro (⟨h1,_⟩ | h1 | ⟨h1,_⟩)
  ·exact .inl h1
  ·exact .inr h1
  ·exact .inl h1
 ·rintro (h1 | h1)
  ·have:r.who ≠ w:=fun e=>by rw [isW_iff.2 ⟨r,h1,e⟩] at h;cases h
   by_cases h2:r.who < w
   ·exact .inl ⟨h1,h2⟩
   ·exact .inr (.inr ⟨h1,by omega⟩)
  ·exact .inr (.inl h1)
theorem srt_insW {x:List R25Row} (h:Srt x) (w:Int):Srt (insW x w):=by
 unfold insW;refine List.pairwise_append.2 ⟨h.sublist List.filter_sublist,List.pairwise_cons.2 ⟨fun r hr=>?_,h.sublist List.filter_sublist⟩,fun a ha b hb=>?_⟩
 ·exact of_decide_eq_true (List.mem_filter.1 hr).2
 ·have h1:=of_decide_eq_true (List.mem_filter.1 ha).2;rcases List.mem_cons.1 hb with rfl | hb
  ·exact h1
  ·have h2:=of_decide_eq_true (List.mem_filter.1 hb).2;omega
theorem len_insW {x:List R25Row} (h:Srt x) {w:Int} (hw:isW x w = false):(insW x w).length ≤ x.length + 1:=by
 have hn:(insW x w).Nodup:=(srt_insW h w).imp fun {a b} h e=>by rw [e] at h;omega
 have:=List.Nodup.length_le_of_subset hn (l₂:=⟨w,[]⟩ :: x) (fun r hr=>by
  rcases (mem_insW hw).1 hr with h1 | h1
  ·exact List.mem_cons_of_mem _ h1
  ·rw [h1];exact List.mem_cons_self)
 simpa using this
section
variable {B n:Nat} {nl:Bool} {m:Mx} {x:List R25Row} (hR:Rep B n nl m x)
include hR
theorem Rep.ins {w:Int} (hw:isW x w = false):Rep B (n + 1) false (AL.set m (w,0) []) (insW x w) where
 nd:=AL.nodup_set hR.nd _ _
 srt:=srt_insW hR.srt w
 can r hr:=by
  rcases (mem_insW hw).1 hr with h | h
  ·exact hR.can r h
  ·rw [h];exact C.canon_nil
 tot r hr:=by
  rcases (mem_insW hw).1 hr with h | h
  ·exact hR.tot r h
  ·rw [h];exact Nat.zero_le _
 len:=by have:=len_insW hR.srt hw;have:=hR.len;omega
 nil h:=by cases h
 mem w' k l:=by
  rw [mem_set hR.nd,hR.mem]
  constructor
  ·rintro (⟨h1,h2⟩ | ⟨h1,r,hr,h2⟩)
   ·cases h1
    exact ⟨⟨w,[]⟩,(mem_insW hw).2 (.inr rfl),rfl,.inl ⟨rfl,h2⟩⟩
   ·exact ⟨r,(mem_insW hw).2 (.inl hr),h2⟩
  ·rintro ⟨r,hr,e,h⟩;rcases (mem_insW hw).1 hr with h1 | h1
   ·refine .inr ⟨fun h2=>?_,r,h1,e,h⟩
    cases h2
    rw [isW_iff.2 ⟨r,h1,e⟩] at hw;cases hw
   ·rw [h1] at e h;rcases h with ⟨h2,h3⟩ | h2
    ·subst e;exact .inl ⟨by rw [h2],h3⟩
    ·cases h2
theorem Rep.join (w:Int):∃ nl' m',ack_Matrix_Join_o w nl m = pure (!(decide (w = 0) || isW x w),nl',m') ∧ Rep B (n + 1) nl' m' (joinR x w):=by
 unfold ack_Matrix_Join_o joinR;rw [hR.is w,det_pure,pure_bind]
 by_cases h0:w = 0
 ·exact ⟨nl,m,by rw [decide_eq_true h0];rfl,by rw [if_pos (.inl h0)];exact hR.up (Nat.le_refl _) (by omega)⟩
 ·rw [decide_eq_false h0,cond_false,pure_bind]
  cases hw:isW x w
  ·exact ⟨false,AL.set m (w,0) [],by rw [cond_false,hR.put,det_pure,pure_bind];rfl,by rw [if_neg (by simp [h0])];exact hR.ins hw⟩
  ·exact ⟨nl,m,rfl,by rw [if_pos (.inr rfl)];exact hR.up (Nat.le_refl _) (by omega)⟩
end

def leaveR (x:List R25Row) (w:Int):List R25Row:=x.filter fun r=>!decide (r.who = w)
theorem mem_leaveR {x:List R25Row} {w:Int} {r:R25Row}:r ∈ leaveR x w ↔ r ∈ x ∧ r.who ≠ w:=by simp [leaveR]
theorem leaveR_no {x:List R25Row} {w:Int} (h:isW x w = false):leaveR x w = x:=by
 unfold leaveR;refine List.filter_eq_self.2 fun r hr=>?_
 have:r.who ≠ w:=fun e=>by rw [isW_iff.2 ⟨r,hr,e⟩] at h;cases h
 simp [this]
theorem mem_dels (w:Int):∀ (a:List TPart) (m:Mx),(m.map (·.1)).Nodup → ((a.foldl (fun m p=>AL.del m (w,p.dev)) m).map (·.1)).Nodup ∧ ∀ w' k l,((w',k),l) ∈ a.foldl (fun m p=>AL.del m (w,p.dev)) m ↔ ¬ (w' = w ∧ ∃ p ∈ a,p.dev = k) ∧ ((w',k),l) ∈ m
 | [],m,hn=>⟨hn,fun w' k l=>by simp⟩
 | p :: r,m,hn=>by
  obtain ⟨h1,h2⟩:=mem_dels w r (AL.del m (w,p.dev)) (nodup_del hn _);refine ⟨h1,fun w' k l=>?_⟩;rw [List.foldl_cons,h2,mem_del hn]
  constructor
  ·rintro ⟨g1,g2,g3⟩;refine ⟨?_,g3⟩;rintro ⟨e1,q,hq,e2⟩;rcases List.mem_cons.1 hq with rfl | hq
   ·exact g2 (by rw [e1,e2])
   ·exact g1 ⟨e1,q,hq,e2⟩
  ·rintro ⟨g1,g2⟩;refine ⟨?_,?_,g2⟩
   ·rintro ⟨e1,q,hq,e2⟩;exact g1 ⟨e1,q,List.mem_cons_of_mem _ hq,e2⟩
   ·intro e;cases e;exact g1 ⟨rfl,p,List.mem_cons_self,rfl⟩
section
variable {B n:Nat} {nl:Bool} {m:Mx} {x:List R25Row} (hR:Rep B n nl m x)
include hR
theorem Rep.leave (hS:n ≤ 1000 ∧ B ≤ 100000000) (w:Int):∃ m',ack_Matrix_Leave_o w nl m = pure (isW x w,nl,m') ∧ Rep B n nl m' (leaveR x w):=by
 unfold ack_Matrix_Leave_o;rw [hR.is w,det_pure,pure_bind]
 cases hw:isW x w
 ·exact ⟨m,rfl,by rw [leaveR_no hw];exact hR⟩
 rw [Bool.not_true,cond_false,hR.Row hS,det_pure,pure_bind];obtain ⟨hc,ht⟩:=hR.getC w;have hl:=canon_len fun p hp=>(hc.nf p hp).2.1
 have:=M.loopL (body:=ack_Matrix_Leave_o_l0 (getW x w) w) (getW x w) (fun i (t:Mx)=>((i:Int),t)) (fun t p=>AL.del t (w,p.dev)) (fun t=>pure t) (fun _ _=>True) (fun i p t hp hi _=>by
  refine ⟨?_,trivial⟩;show cond (decide ((i:Int) < ((getW x w).length:Int))) _ _ = _;rw [decide_eq_true (by omega),cond_true,idx_nat hp,pure_bind,wSucc (by omega)]) (fun t _=>by
  show cond (decide (((getW x w).length:Int) < ((getW x w).length:Int))) _ _ = _;rw [decide_eq_false (by omega)];rfl) m trivial
 rw [show ((0:Int),m) = (((0:Nat):Int),m) from rfl,this,pure_bind];obtain ⟨d1,d2⟩:=mem_dels w (getW x w) m hR.nd;refine ⟨_,rfl,?_⟩;refine ⟨nodup_del d1 _,fun w' k l=>?_,hR.srt.sublist List.filter_sublist,fun r hr=>hR.can r (mem_leaveR.1 hr).1,fun r hr=>hR.tot r (mem_leaveR.1 hr).1,Nat.le_trans (List.length_filter_le _ _) hR.len,fun h=>?_⟩
 ·rw [mem_del d1,d2,hR.mem]
  constructor
  ·rintro ⟨g1,g2,r,hr,e,h⟩;refine ⟨r,mem_leaveR.2 ⟨hr,fun e2=>?_⟩,e,h⟩;have e3:w' = w:=e.symm.trans e2;rcases h with ⟨h1,_⟩ | h
   ·exact g1 (by rw [e3,h1])
   ·refine g2 ⟨e3,(⟨k,l⟩:TPart),?_,rfl⟩;rw [← e2,getW_mem hR.srt hr];exact h
  ·rintro ⟨r,hr,e,h⟩;obtain ⟨h1,h2⟩:=mem_leaveR.1 hr;have h3:w' ≠ w:=fun e2=>h2 (e.trans e2)
   exact ⟨fun e2=>h3 (by cases e2;rfl),fun e2=>h3 e2.1,r,h1,e,h⟩
 ·have h0:=hR.nil h;subst h0;have:∀ a:List TPart,a.foldl (fun (m:Mx) p=>AL.del m (w,p.dev)) [] = []:=by
   intro a
   induction a with
   | nil=>rfl
   | cons p r ih=>exact ih
  rw [this];rfl
end

def hearR (x:List R25Row) (w:Int) (c:List TPart):List R25Row:=x.map fun r=>if r.who = w then ⟨r.who,C.opC (· || ·) r.c c⟩ else r
theorem hearR_no {x:List R25Row} {w:Int} {c:List TPart} (h:isW x w = false):hearR x w c = x:=by
 unfold hearR;have:∀ r ∈ x,(if r.who = w then ⟨r.who,C.opC (· || ·) r.c c⟩ else r) = r:=fun r hr=>by
  rw [if_neg fun e=>by rw [isW_iff.2 ⟨r,hr,e⟩] at h;cases h]
 exact (List.map_congr_left this).trans (List.map_id _)
theorem mem_sets (w:Int):∀ (a:List TPart) (m:Mx),C.OrdP a → (m.map (·.1)).Nodup → ((a.foldl (fun m p=>AL.set m (w,p.dev) p.runs) m).map (·.1)).Nodup ∧ ∀ w' k l,((w',k),l) ∈ a.foldl (fun m p=>AL.set m (w,p.dev) p.runs) m ↔ (w' = w ∧ (⟨k,l⟩:TPart) ∈ a) ∨ (¬ (w' = w ∧ ∃ p ∈ a,p.dev = k) ∧ ((w',k),l) ∈ m)
 | [],m,_,hn=>⟨hn,fun w' k l=>by simp⟩
 | p :: r,m,ho,hn=>by
  obtain ⟨o1,o2⟩:=List.pairwise_cons.1 ho;obtain ⟨h1,h2⟩:=mem_sets w r (AL.set m (w,p.dev) p.runs) o2 (AL.nodup_set hn _ _);refine ⟨h1,fun w' k l=>?_⟩;rw [List.foldl_cons,h2,mem_set hn]
  constructor
  ·rintro (⟨e,h⟩ | ⟨g1,⟨e1,e2⟩ | ⟨e1,e2⟩⟩)
   ·exact .inl ⟨e,List.mem_cons_of_mem _ h⟩
   ·cases e1
    exact .inl ⟨rfl,by rw [e2];exact List.mem_cons_self⟩
   ·refine .inr ⟨?_,e2⟩;rintro ⟨g3,q,hq,g4⟩;rcases List.mem_cons.1 hq with rfl | hq
    ·exact e1 (by rw [g3,g4])
    ·exact g1 ⟨g3,q,hq,g4⟩
  ·rintro (⟨e,h⟩ | ⟨g1,g2⟩)
   ·rcases List.mem_cons.1 h with h | h
    ·refine .inr ⟨?_,.inl ⟨by rw [e,← h],by rw [← h]⟩⟩;rintro ⟨_,q,hq,g4⟩;have:=o1 q hq;rw [← h] at this;simp only at this;omega
    ·exact .inl ⟨e,h⟩
   ·refine .inr ⟨?_,.inr ⟨?_,g2⟩⟩
    ·rintro ⟨e1,q,hq,e2⟩;exact g1 ⟨e1,q,List.mem_cons_of_mem _ hq,e2⟩
    ·intro e;cases e;exact g1 ⟨rfl,p,List.mem_cons_self,rfl⟩
section
variable {B n:Nat} {nl:Bool} {m:Mx} {x:List R25Row} (hR:Rep B n nl m x)
include hR
theorem Rep.hear (hS:n ≤ 1000 ∧ B ≤ 1000000) (w:Int) {c:List TPart} (hc:c.length ≤ 1000000 ∧ C.totC c ≤ 1000000):∃ nl' m',ack_Matrix_Hear_o w c nl m = pure (if isW x w then 0 else 6,nl',m') ∧ Rep (B + C.totC c) n nl' m' (hearR x w c):=by
 unfold ack_Matrix_Hear_o;rw [hR.is w,det_pure,pure_bind]
 cases hw:isW x w
 ·exact ⟨nl,m,rfl,by rw [hearR_no hw];exact hR.up (by omega) (Nat.le_refl _)⟩
 obtain ⟨g1,g2⟩:=hR.getC w;have gl:=canon_len fun p hp=>(g1.nf p hp).2.1
 have hj:=C.canon_op (op:=(· || ·)) rfl (getW x w) c;have ht:=tot_op mon_or (getW x w) c;have hl:=canon_len fun p hp=>(hj.nf p hp).2.1
 rw [Bool.not_true,cond_false,hR.Row ⟨hS.1,by omega⟩,det_pure,pure_bind,C.Join_eq _ _ (C.sm_app (by omega) (by omega)),det_pure,pure_bind];have:=M.loopL (body:=ack_Matrix_Hear_o_l0 (C.opC (· || ·) (getW x w) c) w) (C.opC (· || ·) (getW x w) c) (fun i (t:Bool × Mx)=>((i:Int),t.1,t.2)) (fun t p=>(false,AL.set t.2 (w,p.dev) p.runs)) (fun t=>pure (t.1,t.2)) (fun _ t=>t.1 = true → t.2 = []) (fun i p t hp hi hI=>by
  refine ⟨?_,fun h=>by cases h⟩;show cond (decide ((i:Int) < ((C.opC (· || ·) (getW x w) c).length:Int))) _ _ = _;rw [decide_eq_true (by omega),cond_true,idx_nat hp,pure_bind];have hput:ack_Matrix_put_o w p.dev p.runs t.1 t.2 = pure (false,AL.set t.2 (w,p.dev) p.runs):=by
   unfold ack_Matrix_put_o
   cases h:t.1 with
   | false=>rfl
   | true=>rw [hI h];rfl
  rw [hput,det_pure,pure_bind,wSucc (by omega)]) (fun t _=>by
  show cond (decide (((C.opC (· || ·) (getW x w) c).length:Int) < ((C.opC (· || ·) (getW x w) c).length:Int))) _ _ = _;rw [decide_eq_false (by omega)];rfl) (nl,m) hR.nil
 rw [show ((0:Int),nl,m) = (((0:Nat):Int),nl,m) from rfl,this,pure_bind];have hf:∀ (a:List TPart) (t:Bool × Mx),(t.1 = true → t.2 = []) → (a.foldl (fun t p=>(false,AL.set t.2 (w,p.dev) p.runs)) t).2 = a.foldl (fun m p=>AL.set m (w,p.dev) p.runs) t.2 ∧ ((a.foldl (fun t p=>(false,AL.set t.2 (w,p.dev) p.runs)) t).1 = true → (a.foldl (fun t p=>(false,AL.set t.2 (w,p.dev) p.runs)) t).2 = []):=by
  intro a
  induction a with
  | nil=>intro t ht;exact ⟨rfl,ht⟩
  | cons p r ih=>intro t _;exact ih (false,AL.set t.2 (w,p.dev) p.runs) fun h=>by cases h
 obtain ⟨f1,f2⟩:=hf (C.opC (· || ·) (getW x w) c) (nl,m) hR.nil;refine ⟨_,_,rfl,?_⟩;obtain ⟨d1,d2⟩:=mem_sets w (C.opC (· || ·) (getW x w) c) m hj.ord hR.nd;obtain ⟨r0,hr0,e0⟩:=isW_iff.1 hw;have hg:getW x w = r0.c:=by rw [← e0];exact getW_mem hR.srt hr0
 have hdev:∀ p ∈ r0.c,∃ q ∈ C.opC (· || ·) (getW x w) c,q.dev = p.dev:=fun p hp=>by
  obtain ⟨q,hq⟩:=part_has (hR.can r0 hr0) hp;exact has_dev (k:=p.dev) (n:=q) (by rw [C.has_opC rfl,hg,hq];rfl)
 have hmem:∀ r',r' ∈ hearR x w c ↔ (r' ∈ x ∧ r'.who ≠ w) ∨ r' = ⟨w,C.opC (· || ·) (getW x w) c⟩:=fun r'=>by
  unfold hearR;rw [List.mem_map]
  constructor
  ·rintro ⟨r,hr,rfl⟩
   by_cases e:r.who = w
   ·rw [if_pos e,← e,getW_mem hR.srt hr];exact .inr rfl
   ·rw [if_neg e];exact .inl ⟨hr,e⟩
  ·rintro (⟨h1,h2⟩ | rfl)
   ·exact ⟨r',h1,if_neg h2⟩
   ·exact ⟨r0,hr0,by rw [if_pos e0,hg,e0]⟩
 refine ⟨by rw [f1];exact d1,fun w' k l=>?_,?_,fun r hr=>?_,fun r hr=>?_,by unfold hearR;rw [List.length_map];exact hR.len,fun h=>f2 h⟩
 ·show ((w',k),l) ∈ ((C.opC (· || ·) (getW x w) c).foldl (fun t p=>(false,AL.set t.2 (w,p.dev) p.runs)) (nl,m)).2 ↔ _;rw [f1,d2,hR.mem]
  constructor
  ·rintro (⟨e,h⟩ | ⟨g3,r,hr,e,h⟩)
   ·exact ⟨_,(hmem _).2 (.inr rfl),e.symm,.inr h⟩
   ·by_cases e2:w' = w
    ·have:r = r0:=srt_one hR.srt hr hr0 (by rw [e,e2,e0]);subst this;rcases h with ⟨h1,h2⟩ | h
     ·exact ⟨_,(hmem _).2 (.inr rfl),e2.symm,.inl ⟨h1,h2⟩⟩
     ·obtain ⟨q,hq,hqd⟩:=hdev _ h;exact absurd ⟨e2,q,hq,hqd⟩ g3
    ·exact ⟨r,(hmem _).2 (.inl ⟨hr,fun e3=>e2 (e.symm.trans e3)⟩),e,h⟩
  ·rintro ⟨r,hr,e,h⟩;rcases (hmem r).1 hr with ⟨h1,h2⟩ | h1
   ·exact .inr ⟨fun e2=>h2 (e.trans e2.1),r,h1,e,h⟩
   ·rw [h1] at e h;rcases h with ⟨h2,h3⟩ | h
    ·refine .inr ⟨?_,r0,hr0,by rw [e0];exact e,.inl ⟨h2,h3⟩⟩;rintro ⟨_,q,hq,e2⟩;have:=(hj.nf q hq).1;omega
    ·exact .inl ⟨e.symm,h⟩
 ·unfold hearR Srt;rw [List.pairwise_map];exact hR.srt.imp fun {a b} h=>by
   have e1:∀ r:R25Row,(if r.who = w then ⟨r.who,C.opC (· || ·) r.c c⟩ else r:R25Row).who = r.who:=fun r=>by split <;> rfl
   rw [e1,e1];exact h
 ·rcases (hmem r).1 hr with ⟨h1,_⟩ | h1
  ·exact hR.can r h1
  ·rw [h1];exact hj
 ·rcases (hmem r).1 hr with ⟨h1,_⟩ | h1
  ·have:=hR.tot r h1;omega
  ·rw [h1];show C.totC (C.opC (· || ·) (getW x w) c) ≤ _;omega
end


theorem clone_eq (l:List TRun) (h:l.length ≤ 1000000000000):slices_Clone_sl_Run_Run l = pure l:=by
 refine eq_pure ?_;unfold slices_Clone_sl_Run_Run;refine ⟨⟨false,fun h=>by cases h⟩,fun b hb=>?_⟩
 cases b
 ·exact ⟨by simp;omega,by show [] ++ l = l;simp⟩
 ·exact (hb rfl).symm
theorem all_zip {α:Type} (l:List α) (p:α → Bool):(l.zipIdx.all fun y=>p y.1) = l.all p:=by
 have h:∀ k:Nat,((l.zipIdx k).all fun y=>p y.1) = l.all p:=by
  induction l with
  | nil=>intro k;rfl
  | cons a r ih=>intro k;rw [List.zipIdx_cons,List.all_cons,List.all_cons,ih]
 exact h 0
def memF (e:(Int × Int) × List TRun):Option Int:=if e.1.2 = 0 then some e.1.1 else none
theorem mem_loop (m:Mx) (hl:m.length ≤ 1000000000000) {Q:List Int → Prop} (hQ:∀ c,c.Perm (m.filterMap memF) → Q c):(loop (ack_Matrix_Members_o_l0 m) ([],([]:List Int))).wp Q:=by
 refine M.loopM m (fun L (t:List Int)=>(L,t)) (fun t e=>cond (decide (e.1.2 = 0)) (need ((t.length + 1) * 2 ≤ 140737488355328) (pure (t ++ [e.1.1]))) (pure t)) (fun t=>pure t)
  (fun l t=>t = l.filterMap memF) Q (fun L t hL=>?_) (fun l t y ht hlen hy=>?_) (fun l t hp ht=>?_) [] rfl
 ·show need _ ((nxt _ _).bind _) = need _ ((nxt _ _).bind _);refine congrArg (fun k=>need _ ((nxt _ _).bind k)) (funext fun o=>?_)
  cases o with
  | none=>rfl
  | some i=>
   refine congrArg (fun k=>(idx m (Int.ofNat i)).bind k) (funext fun y=>?_);show cond _ _ _ = M.bind (cond _ _ _) _;rw [bind_cond];rfl
 ·by_cases h:y.1.2 = 0
  ·refine ⟨t ++ [y.1.1],?_,?_⟩
   ·have hb:t.length ≤ l.length:=by rw [ht];exact List.length_filterMap_le _ _
    rw [decide_eq_true h,cond_true,need_true (by omega)]
   ·rw [ht,List.filterMap_append];simp [memF,h]
  ·refine ⟨t,by rw [decide_eq_false h,cond_false],?_⟩;rw [ht,List.filterMap_append];simp [memF,h]
 ·refine hQ t ?_;rw [ht];exact hp.filterMap _
def withinC (a b:List TPart):Bool:=decide (C.opC (fun x y=>x && !y) a b = [])
theorem within_iff {a b:List TPart}:withinC a b = true ↔ ∀ k q,C.hasC a k q = true → C.hasC b k q = true:=by
 have h0:(fun x y:Bool=>x && !y) false false = false:=rfl;unfold withinC;rw [decide_eq_true_eq]
 constructor
 ·intro h k q ha;have:=C.has_opC (op:=fun x y=>x && !y) h0 a b k q;rw [h,C.hasC_nil,ha] at this;simpa using this
 ·intro h;refine C.canon_none (C.canon_op (op:=fun x y=>x && !y) h0 a b) fun k q=>?_
  rw [C.has_opC (op:=fun x y=>x && !y) h0]
  cases ha:C.hasC a k q with
  | false=>rfl
  | true=>rw [h k q ha];rfl
def frontX (x:List R25Row) (c:List TPart):List TPart:=(x.map (·.c)).foldl (C.opC (· && ·)) (C.normC c)
theorem has_front (x:List R25Row) (c:List TPart) (k q:Int):C.hasC (frontX x c) k q = (C.hasC c k q && x.all fun r=>C.hasC r.c k q):=by
 have h:∀ (l:List (List TPart)) (t:List TPart),C.hasC (l.foldl (C.opC (· && ·)) t) k q = (C.hasC t k q && l.all fun r=>C.hasC r k q):=by
  intro l
  induction l with
  | nil=>intro t;simp
  | cons a r ih=>intro t;rw [List.foldl_cons,ih,C.has_opC rfl,List.all_cons,Bool.and_assoc]
 unfold frontX;rw [h,C.has_normC,List.all_map];rfl
theorem front_ok {x:List R25Row} {c:List TPart} {B:Nat} (hx:∀ r ∈ x,C.totC r.c ≤ B):C.Canon (frontX x c) ∧ C.totC (frontX x c) ≤ 2 * C.totC c + x.length * B:=by
 have h:∀ (l:List R25Row) (t:List TPart) (T:Nat),(∀ r ∈ l,C.totC r.c ≤ B) → C.Canon t → C.totC t ≤ T → C.Canon ((l.map (·.c)).foldl (C.opC (· && ·)) t) ∧ C.totC ((l.map (·.c)).foldl (C.opC (· && ·)) t) ≤ T + l.length * B:=by
  intro l
  induction l with
  | nil=>intro t T _ h1 h2;exact ⟨h1,by simpa using h2⟩
  | cons a r ih=>
   intro t T hl h1 h2;have h3:=tot_op mon_and t a.c;have h4:=hl a List.mem_cons_self;obtain ⟨g1,g2⟩:=ih (C.opC (· && ·) t a.c) (T + B) (fun r hr=>hl r (List.mem_cons_of_mem _ hr)) (C.canon_op rfl _ _) (by omega);refine ⟨g1,Nat.le_trans g2 ?_⟩;rw [List.length_cons,Nat.succ_mul];omega
 exact h x _ _ hx (C.canon_norm c) (C.tot_normC c)
def belowX (x y:List R25Row):Bool:=x.all fun r=>isW y r.who && withinC r.c (getW y r.who)
section
variable {B n:Nat} {nl:Bool} {m:Mx} {x:List R25Row} (hR:Rep B n nl m x)
include hR
theorem Rep.copy (hS:n ≤ 1000 ∧ B ≤ 1000000) {Q:Bool × Mx → Prop} (hQ:∀ nl' m',Rep B n nl' m' x → Q (nl',m')):(ack_Matrix_Copy_o nl m).wp Q:=by
 unfold ack_Matrix_Copy_o;rw [show ack_New_o = pure (true,[]) from rfl,det_pure,pure_bind];have hlen:∀ e ∈ m,e.2.length ≤ 1000000:=fun e he=>by
  obtain ⟨⟨w,k⟩,l⟩:=e;obtain ⟨r,hr,_,h⟩:=(hR.mem w k l).1 he;rcases h with ⟨_,rfl⟩ | h
  ·simp
  ·have:=C.run_le _ h;have:=hR.tot r hr;simp only at *;omega
 refine M.loopM (body:=ack_Matrix_Copy_o_l0 m) (Q:=fun a=>(match a with | (nl6,v7)=>pure (nl6,v7):M (Bool × Mx)).wp Q) m (fun L (t:Bool × Mx)=>(L,t.1,t.2)) (fun t e=>(det (slices_Clone_sl_Run_Run e.2)).bind fun v=>det (ack_Matrix_put_o e.1.1 e.1.2 v t.1 t.2)) (fun t=>pure (t.1,t.2))
  (fun q t=>(t.2.map (·.1)).Nodup ∧ (∀ k,k ∈ t.2 ↔ k ∈ q) ∧ (∀ k ∈ q,k ∈ m) ∧ (t.1 = true → t.2 = [])) (fun L t hL=>?_) (fun q t y ht hlen' hy=>?_) (fun q t hp ht=>?_) (true,[]) ⟨List.nodup_nil,fun k=>Iff.rfl,(fun k h=>by cases h),fun _=>rfl⟩
 ·show need _ ((nxt _ _).bind _) = need _ ((nxt _ _).bind _);refine congrArg (fun k=>need _ ((nxt _ _).bind k)) (funext fun o=>?_)
  cases o with
  | none=>rfl
  | some i=>rfl
 ·obtain ⟨h1,h2,h3,h4⟩:=ht;have hput:ack_Matrix_put_o y.1.1 y.1.2 y.2 t.1 t.2 = pure (false,AL.set t.2 (y.1.1,y.1.2) y.2):=by
   unfold ack_Matrix_put_o
   cases h:t.1 with
   | false=>rfl
   | true=>rw [h4 h];rfl
  refine ⟨(false,AL.set t.2 (y.1.1,y.1.2) y.2),by rw [clone_eq _ (by have:=hlen y hy;omega),det_pure,pure_bind,hput,det_pure],AL.nodup_set h1 _ _,fun k=>?_,fun k hk'=>?_,fun h=>by cases h⟩
  ·obtain ⟨kk,kv⟩:=k;rw [mem_set h1,h2,List.mem_append,List.mem_singleton]
   constructor
   ·rintro (⟨e1,e2⟩ | ⟨_,h⟩)
    ·right;obtain ⟨⟨a,b⟩,c⟩:=y;simp at e1 e2;simp [e1,e2]
    ·exact .inl h
   ·rintro (h | h)
    ·by_cases e:kk = (y.1.1,y.1.2)
     ·left
      refine ⟨e,?_⟩;have g1:=AL.mem_get hR.nd (h3 _ h);have g2:=AL.mem_get hR.nd (k:=y.1) (v:=y.2) hy;rw [show y.1 = (y.1.1,y.1.2) from rfl,← e] at g2;rw [g1] at g2;cases g2;rfl
     ·exact .inr ⟨e,h⟩
    ·left;rw [← h];exact ⟨rfl,rfl⟩
  ·rcases List.mem_append.1 hk' with h | h
   ·exact h3 k h
   ·rw [List.mem_singleton.1 h];exact hy
 ·obtain ⟨h1,h2,h3,h4⟩:=ht;refine hQ t.1 t.2 { hR with nd:=h1,mem:=fun w k l=>by rw [h2,hp.mem_iff,hR.mem],nil:=h4 }
theorem Rep.members (hS:n ≤ 49 ∧ B ≤ 100000000):ack_Matrix_Members_o nl m = pure (x.map (·.who)):=by
 have hnd:((x.map (·.who))).Pairwise (· < ·):=by rw [List.pairwise_map];exact hR.srt
 have hmx:(m.filterMap memF).Perm (x.map (·.who)):=by
  refine (List.perm_ext_iff_of_nodup ?_ (C.sorted_nodup hnd)).2 fun w=>?_
  ·have h1:m.Pairwise fun a b=>a.1 ≠ b.1:=by
    have:=hR.nd;rw [List.Nodup,List.pairwise_map] at this;exact this
   refine List.Pairwise.filterMap memF (fun a b hab p hp q hq=>?_) h1;unfold memF at hp hq
   split at hp
   ·split at hq
    ·rename_i e1 e2
     cases hp;cases hq
     intro e;exact hab (Prod.ext e (e1.trans e2.symm))
    ·cases hq
   ·cases hp
  ·rw [List.mem_filterMap,List.mem_map]
   constructor
   ·rintro ⟨⟨⟨a,k⟩,l⟩,he,h⟩;unfold memF at h
    split at h
    ·cases h
     obtain ⟨r,hr,e,_⟩:=(hR.mem _ _ _).1 he;exact ⟨r,hr,e⟩
    ·cases h
   ·rintro ⟨r,hr,rfl⟩;exact ⟨((r.who,0),[]),(hR.mem _ _ _).2 ⟨r,hr,rfl,.inl ⟨rfl,rfl⟩⟩,rfl⟩
 refine eq_pure ?_;unfold ack_Matrix_Members_o;refine mem_loop m (Nat.le_trans hR.mlen ?_) fun c hc=>?_
 ·calc n * (B + 1) ≤ 1000 * (B + 1):=Nat.mul_le_mul_right _ (by omega)
   _ ≤ 1000000000000:=by omega
 ·have h1:=hc.trans hmx;have hl:c.length < 50:=by rw [h1.length_eq,List.length_map];have:=hR.len;omega
  obtain ⟨l',e1,e2,e3⟩:=I.sort_eq c hl;show ((det (slices_Sort_sl_uint16_uint16_o c)).bind _).wp _;rw [e1,det_pure,pure_bind,need_true e2.length_eq];show l' = _;exact (e2.trans h1).eq_of_pairwise (le:=(· ≤ ·)) (fun a b _ _ h1 h2=>by omega) e3 (hnd.imp fun {a b} h=>by omega)
theorem Rep.front (hS:n ≤ 49 ∧ B ≤ 1000000) {c:List TPart} (hc:c.length ≤ 1000000 ∧ C.totC c ≤ 1000000):ack_Matrix_Front_o c nl m = pure (frontX x c):=by
 unfold ack_Matrix_Front_o;rw [C.Norm_eq c ⟨by omega,by omega⟩,det_pure,pure_bind,hR.members ⟨hS.1,by omega⟩,det_pure,pure_bind];have hxl:=hR.len;have:=M.loopL (body:=ack_Matrix_Front_o_l0 (x.map (·.who)) nl m) x (fun i (t:List TPart)=>(t,(i:Int))) (fun t r=>C.opC (· && ·) t r.c) (fun t=>pure t) (fun i t=>C.Canon t ∧ C.totC t ≤ 2000000 + i * 1000000) (fun i r t hr hi hI=>by
  obtain ⟨h1,h2⟩:=hI;have hrm:=List.mem_of_getElem? hr;have h3:=hR.can r hrm;have h4:=hR.tot r hrm;have h5:=tot_op mon_and t r.c;have l1:=canon_len fun p hp=>(h1.nf p hp).2.1
  have l2:=canon_len fun p hp=>(h3.nf p hp).2.1
  refine ⟨?_,C.canon_op rfl _ _,by rw [Nat.succ_mul];omega⟩;show cond (decide ((i:Int) < ((x.map (·.who)).length:Int))) _ _ = _;rw [decide_eq_true (by rw [List.length_map];omega),cond_true,idx_nat (y:=r.who) (by rw [List.getElem?_map,hr];rfl),pure_bind,hR.Row ⟨by omega,by omega⟩,det_pure,pure_bind,getW_mem hR.srt hrm,C.Meet_eq _ _ ⟨by omega,by omega⟩ ⟨by omega,by omega⟩,det_pure,pure_bind,wSucc (by omega)]) (fun t _=>by
  show cond (decide ((x.length:Int) < ((x.map (·.who)).length:Int))) _ _ = _;rw [decide_eq_false (by rw [List.length_map];omega)];rfl) (C.normC c) ⟨C.canon_norm c,by have:=C.tot_normC c;omega⟩
 rw [show (C.normC c,(0:Int)) = (C.normC c,((0:Nat):Int)) from rfl,this,pure_bind];unfold frontX;rw [List.foldl_map]
theorem Rep.below (hS:n ≤ 49 ∧ B ≤ 1000000) {B' n':Nat} {nl':Bool} {m':Mx} {y:List R25Row} (hR':Rep B' n' nl' m' y) (hS':n' ≤ 49 ∧ B' ≤ 1000000):ack_Below_o nl m nl' m' = pure (belowX x y):=by
 unfold ack_Below_o;rw [hR.members ⟨hS.1,by omega⟩,det_pure,pure_bind];have hxl:=hR.len;have:=M.loopAll (body:=ack_Below_o_l0 (x.map (·.who)) nl' m' nl m) x (fun i=>(i:Int)) (fun _ r=>isW y r.who && withinC r.c (getW y r.who)) (Ex.brk ()) (Ex.ret false) (fun i r hr hi=>by
  have hrm:=List.mem_of_getElem? hr;obtain ⟨g1,g2⟩:=hR'.getC r.who;have h3:=hR.can r hrm;have h4:=hR.tot r hrm;have l1:=canon_len fun p hp=>(g1.nf p hp).2.1
  have l2:=canon_len fun p hp=>(h3.nf p hp).2.1
  show cond (decide ((i:Int) < ((x.map (·.who)).length:Int))) _ _ = _;rw [decide_eq_true (by rw [List.length_map];omega),cond_true,idx_nat (y:=r.who) (by rw [List.getElem?_map,hr];rfl),pure_bind,hR'.is,det_pure,pure_bind]
  cases hw:isW y r.who
  ·rfl
  ·rw [Bool.not_true,cond_false,hR.Row ⟨by omega,by omega⟩,det_pure,pure_bind,hR'.Row ⟨by omega,by omega⟩,det_pure,pure_bind,getW_mem hR.srt hrm,C.Within_eq _ _ ⟨by omega,by omega⟩ ⟨by omega,by omega⟩,det_pure,pure_bind,pure_bind,wSucc (by omega)];unfold withinC
   cases decide (C.opC (fun x y=>x && !y) r.c (getW y r.who) = []) <;> rfl) (by
  show cond (decide ((x.length:Int) < ((x.map (·.who)).length:Int))) _ _ = _;rw [decide_eq_false (by rw [List.length_map];omega)];rfl)
 rw [show (0:Int) = ((0:Nat):Int) from rfl,this,pure_bind,all_zip x fun r=>isW y r.who && withinC r.c (getW y r.who)];unfold belowX
 cases x.all fun r=>isW y r.who && withinC r.c (getW y r.who) <;> rfl
end

theorem works25 : l25_works = pure true:=by
 unfold l25_works;have hd:∀ l:List TDot,l.length ≤ 2 → (C.normC (C.dotsC l)).length ≤ 1000 ∧ C.totC (C.normC (C.dotsC l)) ≤ 1000:=fun l hl=>by
  have h1:=C.len_normC (C.dotsC l);have h2:=C.dots_len l;have h3:=C.tot_normC (C.dotsC l);have h4:=C.dots_tot l;omega
 obtain ⟨b1,m1,e1,r1⟩:=(rep_nil 0 0).join 1;obtain ⟨b2,m2,e2,r2⟩:=r1.join 2;have x2:joinR (joinR [] 1) 2 = [⟨1,[]⟩,⟨2,[]⟩]:=by decide
 rw [x2] at r2;have hA:=hd [⟨5,1⟩,⟨5,2⟩] (by simp);have hB:=hd [⟨5,2⟩] (by simp);obtain ⟨b3,m3,e3,r3⟩:=r2.hear ⟨by omega,by omega⟩ 1 (c:=C.normC (C.dotsC [⟨5,1⟩,⟨5,2⟩])) ⟨by omega,by omega⟩;obtain ⟨b4,m4,e4,r4⟩:=r3.hear ⟨by omega,by omega⟩ 2 (c:=C.normC (C.dotsC [⟨5,2⟩])) ⟨by omega,by omega⟩;have hf:=r4.front ⟨by omega,by omega⟩ (c:=C.normC (C.dotsC [⟨5,1⟩,⟨5,2⟩])) ⟨by omega,by omega⟩;have hfx:frontX (hearR (hearR [⟨1,[]⟩,⟨2,[]⟩] 1 (C.normC (C.dotsC [⟨5,1⟩,⟨5,2⟩]))) 2 (C.normC (C.dotsC [⟨5,2⟩]))) (C.normC (C.dotsC [⟨5,1⟩,⟨5,2⟩])) = C.normC (C.dotsC [⟨5,2⟩]):=by
  refine (front_ok (B:=10000) fun r hr=>r4.tot r hr |> fun h=>by omega).1.ext (C.canon_norm _) fun k q=>?_
  rw [has_front];have hAB:C.hasC (C.dotsC [⟨5,2⟩]) k q = true → C.hasC (C.dotsC [⟨5,1⟩,⟨5,2⟩]) k q = true:=fun h=>by
   obtain ⟨d,hd,h1⟩:=(C.has_dots _ _ _).1 h;exact (C.has_dots _ _ _).2 ⟨d,List.mem_cons_of_mem _ hd,h1⟩
  have e1:hearR (hearR [⟨1,[]⟩,⟨2,[]⟩] 1 (C.normC (C.dotsC [⟨5,1⟩,⟨5,2⟩]))) 2 (C.normC (C.dotsC [⟨5,2⟩])) = [⟨1,C.opC (· || ·) [] (C.normC (C.dotsC [⟨5,1⟩,⟨5,2⟩]))⟩,⟨2,C.opC (· || ·) [] (C.normC (C.dotsC [⟨5,2⟩]))⟩]:=rfl;rw [e1];simp only [List.all_cons,List.all_nil,Bool.and_true,C.has_opC (op:=(· || ·)) rfl,C.hasC_nil,Bool.false_or,C.has_normC]
  cases hb:C.hasC (C.dotsC [⟨5,2⟩]) k q with
  | false=>simp
  | true=>rw [hAB hb];rfl
 have w1:isW ([⟨1,[]⟩,⟨2,[]⟩]:List R25Row) 1 = true:=by decide
 have w2:isW (hearR [⟨1,[]⟩,⟨2,[]⟩] 1 (C.normC (C.dotsC [⟨5,1⟩,⟨5,2⟩]))) 2 = true:=rfl;have d1:(!(decide ((1:Int) = 0) || isW [] 1)) = true:=by decide
 have d2:(!(decide ((2:Int) = 0) || isW (joinR [] 1) 2)) = true:=by decide
 rw [show ack_New_o = pure (true,[]) from rfl,det_pure,pure_bind,e1,det_pure,pure_bind,e2,det_pure,pure_bind,C.rOf_eq _ (by simp),det_pure,pure_bind,e3,det_pure,pure_bind,C.rOf_eq _ (by simp),det_pure,pure_bind,e4,det_pure,pure_bind,d1,d2,w1,w2,if_pos rfl,cond_true,cond_true];simp only [decide_true,cond_true];rw [pure_bind,hf,det_pure,pure_bind,hfx,pure_bind,C.rEq_eq _ _ (by omega) (fun p hp=>by have:=C.run_le p hp;omega),det_pure,pure_bind,decide_eq_true rfl]
 rfl
end Go.Ep.M.J

namespace Go.Ep.M.J
open Go

theorem below_of {x y:List R25Row} (hy:Srt y) (h:∀ r ∈ x,∃ s ∈ y,s.who = r.who ∧ ∀ k q,C.hasC r.c k q = true → C.hasC s.c k q = true):belowX x y = true:=by
 unfold belowX;rw [List.all_eq_true];intro r hr;obtain ⟨s,hs,e,h1⟩:=h r hr;rw [Bool.and_eq_true];exact ⟨isW_iff.2 ⟨s,hs,e⟩,by rw [← e,getW_mem hy hs];exact within_iff.2 h1⟩
def fewC (c:List TPart):Bool:=decide (c.length ≤ 30) && c.all fun p=>decide (p.runs.length ≤ 30)
def fewA (l:List L25Act):Bool:=decide (l.length ≤ 30) && l.all fun a=>fewC a.c
theorem rFew (c:List TPart):r09_Few c = pure (fewC c):=C.rFew_eq c
theorem few25 (l:List L25Act):l25_few l = pure (fewA l):=by
 unfold l25_few fewA
 by_cases h:30 < l.length
 ·rw [decide_eq_true (show (30:Int) < (l.length:Int) by omega),cond_true,decide_eq_false (show ¬ l.length ≤ 30 by omega)];rfl
 ·rw [decide_eq_false (show ¬ (30:Int) < (l.length:Int) by omega),cond_false,decide_eq_true (show l.length ≤ 30 by omega),Bool.true_and];have:=M.loopAll (body:=l25_few_l0 l) l (fun i=>(i:Int)) (fun _ a=>fewC a.c) (Ex.brk ()) (Ex.ret false) (fun i a ha hi=>by
   show cond (decide ((i:Int) < (l.length:Int))) _ _ = _;rw [decide_eq_true (by omega),cond_true,idx_nat ha,pure_bind,rFew,det_pure,pure_bind,wSucc (by omega)]
   cases fewC a.c <;> rfl) (by
   show cond (decide ((l.length:Int) < (l.length:Int))) _ _ = _;rw [decide_eq_false (by omega)];rfl)
  rw [show (0:Int) = ((0:Nat):Int) from rfl,this,pure_bind,all_zip l fun a=>fewC a.c]
  cases l.all fun a=>fewC a.c <;> rfl
theorem fewA_iff {l:List L25Act} (h:fewA l = true):l.length ≤ 30 ∧ ∀ a ∈ l,a.c.length ≤ 30 ∧ C.totC a.c ≤ 900:=by
 unfold fewA at h;rw [Bool.and_eq_true,decide_eq_true_eq,List.all_eq_true] at h;exact ⟨h.1,fun a ha=>C.few_tot (h.2 a ha)⟩
theorem rW {a b:List TPart} (ha:C.Ok a) (hb:C.Ok b):r09_Within a b = pure (withinC a b):=C.rWithin_eq a b ha hb
theorem Rep.ok {B n:Nat} {nl:Bool} {m:Mx} {x:List R25Row} (hR:Rep B n nl m x) (hB:B ≤ 1000000) {r:R25Row} (hr:r ∈ x):C.Ok r.c:=canon_ok (hR.can r hr) (by have:=hR.tot r hr;omega)
end Go.Ep.M.J

namespace Go.Ep.M.J
open Go

theorem loopFind {ε ρ:Type} {body:Int → M (Step Int (Ex Unit ρ))} (l:List ε) (p:ε → Bool) (r:ε → ρ)
  (h1:∀ (i:Nat) (x:ε),l[i]? = some x → i < l.length → body (i:Int) = if p x then pure (.done (.ret (r x))) else pure (.next ((i + 1:Nat):Int)))
  (h2:body (l.length:Int) = pure (.done (.brk ()))):loop body 0 = pure (match l.find? p with | some x=>.ret (r x) | none=>.brk ()):=by
 have key:∀ k i,i + k = l.length → loop body (i:Int) = pure (match (l.drop i).find? p with | some x=>.ret (r x) | none=>.brk ()):=by
  intro k
  induction k with
  | zero=>
   intro i hi;have:i = l.length:=by omega
   subst this;rw [loop_done h2,List.drop_length]
   rfl
  | succ k ih=>
   intro i hi;have hlt:i < l.length:=by omega
   have h3:=h1 i l[i] (List.getElem?_eq_getElem hlt) hlt;rw [List.drop_eq_getElem_cons hlt,List.find?_cons]
   by_cases hp:p l[i] = true
   ·rw [if_pos hp] at h3;rw [loop_done h3,hp]
   ·rw [if_neg hp] at h3;rw [loop_next h3,ih (i + 1) (by omega)];simp only [hp]
 simpa using key l.length 0 (by omega)

theorem rIs_eq (x:List R25Row) (w:Int) (h:x.length ≤ 1000000):r25_Is x w = pure (isW x w):=by
 unfold r25_Is;rw [loopFind x (fun r=>decide (r.who = w)) (fun _=>true) (fun i r hr hi=>by
  show cond (decide ((i:Int) < (x.length:Int))) _ _ = _;rw [decide_eq_true (by omega),cond_true,idx_nat hr,pure_bind,wSucc (by omega)]
  cases decide (r.who = w) <;> rfl) (by
  show cond (decide ((x.length:Int) < (x.length:Int))) _ _ = _;rw [decide_eq_false (by omega)];rfl),pure_bind]
 cases hf:x.find? fun r=>decide (r.who = w) with
 | none=>
  have:isW x w = false:=by
   refine Bool.eq_false_iff.2 fun h=>?_
   obtain ⟨r,hr,e⟩:=isW_iff.1 h;have:=List.find?_eq_none.1 hf r hr;simp [e] at this
  rw [this];rfl
 | some r=>
  have:isW x w = true:=isW_iff.2 ⟨r,List.mem_of_find?_eq_some hf,of_decide_eq_true (List.find?_some (p:=fun r:R25Row=>decide (r.who = w)) hf)⟩;rw [this];rfl
theorem rGet_eq (x:List R25Row) (w:Int) (h:x.length ≤ 1000000):r25_Get x w = pure (getW x w):=by
 unfold r25_Get;rw [loopFind x (fun r=>decide (r.who = w)) (fun r=>r.c) (fun i r hr hi=>by
  show cond (decide ((i:Int) < (x.length:Int))) _ _ = _;rw [decide_eq_true (by omega),cond_true,idx_nat hr,pure_bind,pure_bind,wSucc (by omega)]
  cases decide (r.who = w) <;> rfl) (by
  show cond (decide ((x.length:Int) < (x.length:Int))) _ _ = _;rw [decide_eq_false (by omega)];rfl),pure_bind]
 unfold getW
 cases x.find? fun r=>decide (r.who = w) <;> rfl
theorem filt_foldl (p:R25Row → Bool):∀ (x t:List R25Row),x.foldl (fun t r=>if p r then t ++ [r] else t) t = t ++ x.filter p
 | [],t=>by simp
 | r :: x,t=>by
  rw [List.foldl_cons,filt_foldl p x,List.filter_cons]
  by_cases h:p r = true
  ·rw [if_pos h,if_pos h];simp
  ·rw [if_neg h,if_neg h]
theorem filt_loop {body:Int × List R25Row → M (Step (Int × List R25Row) (List R25Row))} (p:R25Row → Bool) (x:List R25Row) (hx:x.length ≤ 1000000)
  (hb:∀ (i:Nat) (t:List R25Row),body ((i:Int),t) = cond (decide ((i:Int) < (x.length:Int))) (M.bind (M.bind (M.idx x (i:Int)) fun x31=>cond (p x31) (M.bind (M.idx x (i:Int)) fun x34=>M.need ((List.length t + List.length ([x34])) * 32 ≤ 140737488355328)<|M.pure (t ++ [x34])) (M.pure t)) (fun out30=>M.pure (.next (IntKind.i64.wrap ((i:Int) + 1),out30)))) (M.pure (.done t)))
  (t:List R25Row) (ht:t.length ≤ 1000001):loop body (0,t) = pure (t ++ x.filter p):=by
 have:=M.loopL (body:=body) x (fun i (t:List R25Row)=>((i:Int),t)) (fun t r=>if p r then t ++ [r] else t) (fun t=>pure t) (fun i t=>t.length ≤ 1000001 + i) (fun i r t hr hi hI=>by
  refine ⟨?_,by by_cases h:p r = true <;> simp [h] <;> omega⟩;rw [hb,decide_eq_true (by omega),cond_true,idx_nat hr,pure_bind,pure_bind,wSucc (by omega)]
  cases p r with
  | false=>rfl
  | true=>rw [cond_true,need_true (by rw [List.length_singleton];omega),pure_bind];rfl) (fun t _=>by
  rw [hb,decide_eq_false (by omega)];rfl) t (by omega)
 rw [show (0:Int) = ((0:Nat):Int) from rfl,this,filt_foldl]
theorem rJoin_eq (x:List R25Row) (w:Int) (h:x.length ≤ 1000000):r25_Join x w = pure (joinR x w,!(decide (w = 0) || isW x w)):=by
 unfold r25_Join joinR;rw [rIs_eq x w h,det_pure,pure_bind]
 by_cases h0:w = 0
 ·rw [decide_eq_true h0,cond_true,pure_bind,if_pos (.inl h0)];rfl
 ·rw [decide_eq_false h0,cond_false,pure_bind]
  cases hw:isW x w
  ·rw [cond_false,if_neg (by simp [h0])];rw [filt_loop (fun r=>decide (r.who < w)) x h (fun i t=>rfl) [] (by simp),pure_bind,List.nil_append];have hl:(x.filter fun r=>decide (r.who < w)).length ≤ x.length:=List.length_filter_le _ _;rw [need_true (by rw [List.length_singleton];omega)];rw [filt_loop (fun r=>decide (w < r.who)) x h (fun i t=>rfl) _ (by simp;omega),pure_bind];unfold insW;simp
  ·rw [cond_true,if_pos (.inr rfl)];rfl
theorem rLeave_eq (x:List R25Row) (w:Int) (h:x.length ≤ 1000000):r25_Leave x w = pure (leaveR x w,isW x w):=by
 unfold r25_Leave;rw [filt_loop (fun r=>!decide (r.who = w)) x h (fun i t=>rfl) [] (by simp),pure_bind,List.nil_append];refine congrArg pure (Prod.ext rfl ?_);show decide (((x.filter fun r=>!decide (r.who = w)).length:Int) < (x.length:Int)) = isW x w;rw [Bool.eq_iff_iff,decide_eq_true_eq,isW_iff];have hl:(x.filter fun r=>!decide (r.who = w)).length ≤ x.length:=List.length_filter_le _ _
 constructor
 ·intro h1;refine Classical.byContradiction fun h2=>?_
  have h3:x.filter (fun r=>!decide (r.who = w)) = x:=List.filter_eq_self.2 fun r hr=>by
   have:r.who ≠ w:=fun e=>h2 ⟨r,hr,e⟩
   simp [this]
  rw [h3] at h1;omega
 ·rintro ⟨r,hr,e⟩;have h3:(x.filter fun r=>!decide (r.who = w)).length ≠ x.length:=fun h4=>by
   have:=List.length_filter_eq_length_iff.1 h4 r hr;simp [e] at this
  omega
theorem rHear_eq {B n:Nat} {nl:Bool} {m:Mx} {x:List R25Row} (hR:Rep B n nl m x) (hS:n ≤ 1000 ∧ B ≤ 1000000) (w:Int) {c:List TPart} (hc:C.Ok c):r25_Hear x w c = pure (hearR x w c,if isW x w then 0 else 6):=by
 have hxl:=hR.len;unfold r25_Hear;rw [rIs_eq x w (by omega),det_pure,pure_bind]
 cases hw:isW x w
 ·rw [hearR_no hw];rfl
 rw [Bool.not_true,cond_false];have:=M.loopL (body:=r25_Hear_l0 x w c) x (fun i (t:List R25Row)=>((i:Int),t)) (fun t r=>t ++ [if r.who = w then ⟨r.who,C.opC (· || ·) r.c c⟩ else r]) (fun t=>pure t) (fun i t=>t.length = i) (fun i r t hr hi hI=>by
  have hrm:=List.mem_of_getElem? hr;refine ⟨?_,by simp [hI]⟩;show cond (decide ((i:Int) < (x.length:Int))) _ _ = _;rw [decide_eq_true (by omega),cond_true,idx_nat hr,pure_bind,C.rJoin_eq _ _ (hR.ok hS.2 hrm) hc,det_pure,pure_bind,wSucc (by omega)]
  by_cases e:r.who = w
  ·rw [decide_eq_true e,cond_true,pure_bind,need_true (by rw [List.length_singleton];omega),if_pos e]
  ·rw [decide_eq_false e,cond_false,pure_bind,need_true (by rw [List.length_singleton];omega),if_neg e]) (fun t _=>by
  show cond (decide ((x.length:Int) < (x.length:Int))) _ _ = _;rw [decide_eq_false (by omega)];rfl) [] rfl
 rw [show (0:Int) = ((0:Nat):Int) from rfl,this,pure_bind];have hm:∀ (f:R25Row → R25Row) (y t:List R25Row),y.foldl (fun t r=>t ++ [f r]) t = t ++ y.map f:=by
  intro f y
  induction y with
  | nil=>intro t;simp
  | cons r y ih=>intro t;rw [List.foldl_cons,ih];simp
 rw [hm (fun r=>if r.who = w then ⟨r.who,C.opC (· || ·) r.c c⟩ else r) x [],List.nil_append]
 rfl
theorem rBelow_eq {B n:Nat} {nl:Bool} {m:Mx} {x:List R25Row} (hR:Rep B n nl m x) (hS:n ≤ 49 ∧ B ≤ 1000000) {B' n':Nat} {nl':Bool} {m':Mx} {y:List R25Row} (hR':Rep B' n' nl' m' y) (hS':n' ≤ 49 ∧ B' ≤ 1000000):r25_Below x y = pure (belowX x y):=by
 have hxl:=hR.len;have hyl:=hR'.len;unfold r25_Below;have:=M.loopAll (body:=r25_Below_l0 x y) x (fun i=>(i:Int)) (fun _ r=>isW y r.who && withinC r.c (getW y r.who)) (Ex.brk ()) (Ex.ret false) (fun i r hr hi=>by
  have hrm:=List.mem_of_getElem? hr;obtain ⟨g1,g2⟩:=hR'.getC r.who;show cond (decide ((i:Int) < (x.length:Int))) _ _ = _;rw [decide_eq_true (by omega),cond_true,idx_nat hr,pure_bind,rIs_eq y r.who (by omega),det_pure,pure_bind]
  cases hw:isW y r.who
  ·rfl
  ·rw [Bool.not_true,cond_false,pure_bind,pure_bind,rGet_eq y r.who (by omega),det_pure,pure_bind,rW (hR.ok hS.2 hrm) (canon_ok g1 (by omega)),det_pure,pure_bind,pure_bind,wSucc (by omega)]
   cases withinC r.c (getW y r.who) <;> rfl) (by
  show cond (decide ((x.length:Int) < (x.length:Int))) _ _ = _;rw [decide_eq_false (by omega)];rfl)
 rw [show (0:Int) = ((0:Nat):Int) from rfl,this,pure_bind,all_zip x fun r=>isW y r.who && withinC r.c (getW y r.who)];unfold belowX
 cases x.all fun r=>isW y r.who && withinC r.c (getW y r.who) <;> rfl


section
variable {B n:Nat} {nl:Bool} {m:Mx} {x:List R25Row} (hR:Rep B n nl m x)
include hR
end
theorem step_wp {i:Nat} {nl:Bool} {m:Mx} {x:List R25Row} (hR:Rep (900 * i) i nl m x) (hi:i < 30) {a:L25Act} (ha:C.totC a.c ≤ 900) (hal:a.c.length ≤ 30) (oc:C.Ok a.c) {Q:List R25Row × Bool × Bool × Mx → Prop}
  (hQ:∀ nl' m' x',Rep (900 * (i + 1)) (i + 1) nl' m' x' → Q (x',true,nl',m')):∃ c,(l25_step_o x a nl m).wp fun y=>(y.1,y.2.1) = c ∧ Q y:=by
 have hxl:=hR.len;unfold l25_step_o
 by_cases k0:a.kind = 0
 ·obtain ⟨nl2,m2,e,r⟩:=hR.join a.who;refine ⟨(joinR x a.who,true),?_⟩;rw [decide_eq_true k0,cond_true,rJoin_eq x a.who (by omega),det_pure,pure_bind,e,det_pure,pure_bind,pure_bind];simp only [beq_self_eq_true];exact ⟨rfl,hQ _ _ _ (r.up (by omega) (Nat.le_refl _))⟩
 rw [decide_eq_false k0,cond_false]
 by_cases k1:a.kind = 1
 ·obtain ⟨m2,e,r⟩:=hR.leave ⟨by omega,by omega⟩ a.who;refine ⟨(leaveR x a.who,true),?_⟩;rw [decide_eq_true k1,cond_true,rLeave_eq x a.who (by omega),det_pure,pure_bind,e,det_pure,pure_bind,pure_bind];simp only [beq_self_eq_true];exact ⟨rfl,hQ _ _ _ (r.up (by omega) (by omega))⟩
 rw [decide_eq_false k1,cond_false];obtain ⟨nl2,m2,e,r⟩:=hR.hear ⟨by omega,by omega⟩ a.who (c:=a.c) ⟨by omega,by omega⟩;have hh:∃ c,M.wp (M.bind (M.bind (M.det (r25_Hear x a.who a.c)) fun v20=>M.bind (M.det (ack_Matrix_Hear_o a.who a.c nl m)) fun y22=>M.pure (.ret (((v20.1,(decide (y22.1 = v20.2)),y22.2.1,y22.2.2)))):M (Ex (Bool × Mx) (List R25Row × Bool × Bool × Mx))) (M.exk fun ⟨nl5,v6⟩=>M.pure (x,true,nl5,v6))) fun y=>(y.1,y.2.1) = c ∧ Q y:=by
  refine ⟨(hearR x a.who a.c,true),?_⟩;rw [rHear_eq hR ⟨by omega,by omega⟩ a.who oc,det_pure,pure_bind,e,det_pure,pure_bind,pure_bind];simp only [decide_true];exact ⟨rfl,hQ _ _ _ (r.up (by omega) (by omega))⟩
 by_cases k2:a.kind = 2
 ·rw [decide_eq_true k2,cond_true,pure_bind,cond_true];exact hh
 rw [decide_eq_false k2,cond_false,pure_bind]
 by_cases k3:a.kind = 3
 ·rw [decide_eq_true k3,cond_true];exact hh
 rw [decide_eq_false k3,cond_false];refine ⟨(x,true),?_⟩
 by_cases k4:a.kind = 4
 ·rw [decide_eq_true k4,cond_true]
  change (ack_Matrix_Copy_o nl m).wp _
  refine hR.copy ⟨by omega,by omega⟩ fun nl' m' hR'=>?_
  obtain ⟨nl3,m3,e3,r3⟩:=hR.join 7;obtain ⟨nl4,m4,e4,r4⟩:=r3.hear ⟨by omega,by omega⟩ a.who (c:=a.c) ⟨by omega,by omega⟩;obtain ⟨m5,e5,r5⟩:=r4.leave ⟨by omega,by omega⟩ 1;show M.wp (M.bind (M.det (ack_Matrix_Join_o 7 nl m)) _) _;rw [e3,det_pure,pure_bind,e4,det_pure,pure_bind,e5,det_pure,pure_bind];exact ⟨rfl,hQ _ _ _ (hR'.up (by omega) (by omega))⟩
 ·rw [decide_eq_false k4,cond_false,pure_bind];exact ⟨rfl,hQ _ _ _ (hR.up (by omega) (by omega))⟩
theorem below_loop (l:List L25Act) (hlen:l.length ≤ 30) (hfew:∀ a ∈ l,a.c.length ≤ 30 ∧ C.totC a.c ≤ 900) (hl:∀ a ∈ l,0 ≤ a.kind ∧ 0 ≤ a.who ∧ ∀ p ∈ a.c,0 ≤ p.dev) {Q:List R25Row × Bool × Bool × Mx → Prop}
  (hQ:∀ x nl m,Rep 27000 30 nl m x → Q (x,true,nl,m)):(loop (l25_AckBelow_l0 l) ([],true,0,true,[])).wp Q:=by
 refine loop_inv (body:=l25_AckBelow_l0 l) (I:=fun s=>s.2.1 = true ∧ ∃ i:Nat,s.2.2.1 = (i:Int) ∧ i ≤ l.length ∧ Rep (900 * i) i s.2.2.2.1 s.2.2.2.2 s.1) (mu:=fun s=>((l.length:Int) - s.2.2.1).toNat) (fun s hI=>?_) _ ⟨rfl,0,rfl,Nat.zero_le _,rep_nil _ _⟩;obtain ⟨x,ok,s1,nl,m⟩:=s;obtain ⟨h0,i,h1,h2,hR⟩:=hI;simp only at h0 h1 hR;subst h0 h1;show M.wp (M.bind (cond (decide ((i:Int) < (l.length:Int))) _ _) _) _
 by_cases hi:i < l.length
 ·have hp:l[i]? = some l[i]:=List.getElem?_eq_getElem hi;have hfa:=hfew _ (List.getElem_mem hi);have hla:=hl _ (List.getElem_mem hi)
  generalize l[i] = a at hp hfa hla
  rw [decide_eq_true (show (i:Int) < (l.length:Int) by omega),cond_true,pure_bind,cond_true,idx_nat hp,pure_bind];refine step_wp hR (by omega) hfa.2 hfa.1 (C.ok_few hla.2.2 hfa) fun nl' m' x' r=>?_
  show (true = true ∧ ∃ j:Nat,IntKind.i64.wrap ((i:Int) + 1) = (j:Int) ∧ j ≤ l.length ∧ Rep (900 * j) j nl' m' x') ∧ ((l.length:Int) - IntKind.i64.wrap ((i:Int) + 1)).toNat < ((l.length:Int) - (i:Int)).toNat;rw [wSucc (by omega)];exact ⟨⟨rfl,i + 1,rfl,hi,r⟩,by omega⟩
 ·rw [decide_eq_false (show ¬ (i:Int) < (l.length:Int) by omega),cond_false,pure_bind,cond_false];exact hQ _ _ _ (hR.up (by omega) (by omega))
theorem below_self {B n:Nat} {nl:Bool} {m:Mx} {x:List R25Row} (hR:Rep B n nl m x):belowX x x = true:=below_of hR.srt fun r hr=>⟨r,hr,rfl,fun _ _ h=>h⟩
theorem below3 {B n:Nat} {nl:Bool} {m:Mx} {x:List R25Row} (hR:Rep B n nl m x) (hS:n ≤ 49 ∧ B ≤ 1000000):ack_Below_o3 nl m = pure (decide ((x.length:Int) = 0)):=by
 unfold ack_Below_o3;rw [hR.members ⟨hS.1,by omega⟩,det_pure,pure_bind]
 cases x with
 | nil=>rw [loop_done (r:=Ex.brk ()) rfl];rfl
 | cons r y=>
  rw [loop_done (r:=Ex.ret false) (by
   show cond (decide ((0:Int) < (((r :: y).map (·.who)).length:Int))) _ _ = _;rw [decide_eq_true (by simp),cond_true,show idx ((r :: y).map (·.who)) 0 = pure r.who from idx_nat (i:=0) rfl,pure_bind,show ack_Matrix_is_nil r.who = pure false from rfl,det_pure,pure_bind])]
  rw [decide_eq_false (show ¬ (((r :: y).length:Nat):Int) = 0 by rw [List.length_cons];omega)];rfl
theorem ackBelow_eq (l k:List L25Act) (hl:∀ a ∈ l,0 ≤ a.kind ∧ 0 ≤ a.who ∧ ∀ p ∈ a.c,0 ≤ p.dev) (hk:∀ a ∈ k,0 ≤ a.kind ∧ 0 ≤ a.who ∧ ∀ p ∈ a.c,0 ≤ p.dev):l25_AckBelow l k = pure true:=by
 unfold l25_AckBelow;rw [few25 l,det_pure,pure_bind]
 cases fl:fewA l with
 | false=>simp only [Bool.not_false,cond_true,pure_bind,works25,det_pure]
 | true=>
 simp only [Bool.not_true,cond_false];rw [few25 k,det_pure,pure_bind]
 cases fk:fewA k with
 | false=>simp only [Bool.not_false,cond_true,pure_bind,works25,det_pure]
 | true=>
 simp only [Bool.not_true,cond_false,pure_bind];obtain ⟨l1,l2⟩:=fewA_iff fl;obtain ⟨k1,k2⟩:=fewA_iff fk;rw [show ack_New_o = pure (true,[]) from rfl,det_pure,pure_bind,pure_bind];refine eq_pure ?_;refine below_loop l l1 l2 hl fun x nl m r=>?_
 have r':=r;rw [show l25_AckBelow_l1 k = l25_AckBelow_l0 k from rfl];refine below_loop k k1 k2 hk fun y nl' m' q=>?_
 have hS:30 ≤ 49 ∧ 27000 ≤ 1000000:=by decide
 dsimp only;rw [cond_true,r.below hS q hS,rBelow_eq r hS q hS,q.below hS r hS,rBelow_eq q hS r hS,show ack_Below_o1 nl m = ack_Below_o nl m nl m from rfl,r.below hS r hS,below_self r,show ack_Below_o2 nl m = pure true by unfold ack_Below_o2;rw [show ack_Matrix_Members_nil = pure [] from rfl,det_pure,pure_bind,loop_done (r:=Ex.brk ()) rfl];rfl,below3 r hS,works25];simp only [det_pure,pure_bind,beq_self_eq_true,cond_true];exact (rfl:true = true)
end Go.Ep.M.J

