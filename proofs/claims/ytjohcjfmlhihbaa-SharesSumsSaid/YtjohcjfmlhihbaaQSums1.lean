/- Several texts, joined. -/
import Derived.KernelRfl
import Derived.SizedLaws
import Derived.ChangeSlices
import Derived.Test.YtjohcjfmlhihbaaQA4
set_option linter.unusedVariables false
set_option linter.unusedSimpArgs false
namespace Go.Proofs.Ytjohcjfmlhihbaa.P
open Go Go.RowKit Go.Proofs.Ytjohcjfmlhihbaa.G
open Go.Proofs.YtjohcjfmlhihbaaW.PrintWords Go.Proofs.YtjohcjfmlhihbaaW.PrintMore
theorem rd_get {l:List Int} {i:Nat} (h:i < l.length):rd l (i:Int) = l[i]:=by unfold rd;simp [h]
theorem wrap_succ {i:Nat} (h:i < 9223372036854775807):wrap64 ((i:Int) + 1) = ((i + 1:Nat):Int):=by unfold wrap64;omega
structure IsCl (l:List Int):Prop where
 one:1 ≤ l.length
 ten:l.length ≤ 10
 mem:∀ x ∈ l,0 ≤ x ∧ x ≤ 1000
instance (l:List Int):Decidable (IsCl l):=decidable_of_iff (1 ≤ l.length ∧ l.length ≤ 10 ∧ ∀ x ∈ l,0 ≤ x ∧ x ≤ 1000) ⟨fun h=>⟨h.1,h.2.1,h.2.2⟩,fun h=>⟨h.1,h.2,h.3⟩⟩
end Go.Proofs.Ytjohcjfmlhihbaa.P
namespace Go.Proofs.Ytjohcjfmlhihbaa.P
open Go Go.RowKit Go.Proofs.Ytjohcjfmlhihbaa.G
open Go.Proofs.YtjohcjfmlhihbaaW.PrintWords Go.Proofs.YtjohcjfmlhihbaaW.PrintMore
structure Sm (A D:Nat) (q:Rat):Prop where
 num:q.num.natAbs ≤ A
 den:q.den ≤ D
theorem Sm.mono {A D B E:Nat} {q:Rat} (h:Sm A D q) (h1:A ≤ B) (h2:D ≤ E):Sm B E q:=⟨Nat.le_trans h.num h1,Nat.le_trans h.den h2⟩
theorem Sm.int {A:Nat} {n:Int} (h:n.natAbs ≤ A):Sm A 1 (n:Rat):=⟨by rw [whole_num];exact h,by rw [whole_den];exact Nat.le_refl _⟩
theorem Sm.zero:Sm 0 1 (0:Rat):=⟨Nat.le_refl _,Nat.le_refl _⟩
theorem Sm.neg {A D:Nat} {q:Rat} (h:Sm A D q):Sm A D (-q):=⟨by rw [Rat.neg_num,Int.natAbs_neg];exact h.num,by rw [Rat.neg_den];exact h.den⟩
theorem Sm.add {A D B E:Nat} {p q:Rat} (h:Sm A D p) (k:Sm B E q):Sm (A * E + B * D) (D * E) (p + q) :=
 ⟨Nat.le_trans (add_num_le p q) (Nat.add_le_add (Nat.mul_le_mul h.num k.den) (Nat.mul_le_mul k.num h.den)),
  Nat.le_trans (Nat.le_of_dvd (Nat.mul_pos (den_pos p) (den_pos q)) (add_den_dvd p q)) (Nat.mul_le_mul h.den k.den)⟩
theorem Sm.half {A D:Nat} {q:Rat} (h:Sm A D q):Sm A (D * 2) (q / 2):=by
 have e:q / 2 = mkRat q.num (q.den * 2):=(mk_over q (n:=2) (by omega)).symm
 rw [e]
 exact ⟨Nat.le_trans (num_le _ _) h.num,Nat.le_trans (den_le (by have:=den_pos q;omega)) (Nat.mul_le_mul_right _ h.den)⟩
theorem Sm.fits {A D B E:Nat} {p q:Rat} (h:Sm A D p) (k:Sm B E q) (h1:A * E + B * D < 9223372036854775808) (h2:D * E < 9223372036854775808):Fits p q :=
 ⟨Nat.lt_of_le_of_lt (Nat.add_le_add (Nat.mul_le_mul h.num k.den) (Nat.mul_le_mul k.num h.den)) h1,Nat.lt_of_le_of_lt (Nat.mul_le_mul h.den k.den) h2⟩
end Go.Proofs.Ytjohcjfmlhihbaa.P
namespace Go.Proofs.Ytjohcjfmlhihbaa.P
open Go Go.RowKit Go.Proofs.Ytjohcjfmlhihbaa.G
open Go.Proofs.YtjohcjfmlhihbaaW.PrintWords Go.Proofs.YtjohcjfmlhihbaaW.PrintMore
def encQ (q:Rat):S23:=⟨q.num,(q.den:Int)⟩
def encL (l:List Rat):List S23:=l.map encQ
theorem encL_length (l:List Rat):(encL l).length = l.length:=List.length_map _
theorem rdE {l:List Rat} {i:Nat} (h:i < l.length):rd_T23 (encL l) (i:Int) = encQ l[i]:=by
 unfold rd_T23 encL
 simp [h]
def nI (l:List Nat):List Int:=l.map Int.ofNat
theorem nI_length (l:List Nat):(nI l).length = l.length:=List.length_map _
theorem rdN {l:List Nat} {i:Nat} (h:i < l.length):rd (nI l) (i:Int) = (l[i]:Int):=by
 unfold rd nI
 simp [h]
section
variable {q:List Rat} (hf:∀ x ∈ q,∀ y ∈ q,Fits x y) (hn:q.length < 20)
structure On (q:List Rat) (σ:List Nat) (m j:Nat):Prop where
 perm:σ.Perm (List.range q.length)
 ord:∀ a b,a < b → b < m → b ≠ j → q.getD (σ.getD a 0) 0 ≤ q.getD (σ.getD b 0) 0
theorem On.len {q:List Rat} {σ:List Nat} {m j:Nat} (h:On q σ m j):σ.length = q.length:=by rw [h.perm.length_eq,List.length_range]
theorem On.lt {q:List Rat} {σ:List Nat} {m j:Nat} (h:On q σ m j) {i:Nat} (hi:i < σ.length):σ[i] < q.length:=List.mem_range.1 (h.perm.mem_iff.1 (List.getElem_mem hi))
include hf
theorem ev_less {a b:Nat} (ha:a < q.length) (hb:b < q.length):Ev (fun k=>api_Frac_1.f k (a:Int) (b:Int) 0 (encL q)) (cmpR q[a] q[b]):=by
 unfold api_Frac_1.f
 rw [encL_length]
 simp only [if_pos (show (0:Int) ≤ (a:Int) by omega),if_pos (show (a:Int) < (q.length:Int) by omega),if_pos (show (0:Int) ≤ (b:Int) by omega),if_pos (show (b:Int) < (q.length:Int) by omega),rdE ha,rdE hb]
 exact Ev.bind (ev_compare (hf _ (List.getElem_mem ha) _ (List.getElem_mem hb))) (Ev.now _)
include hn
theorem sort_l1 {i:Nat} (hi:i < q.length) (Q:List Nat → Prop)
  (out:∀ σ,On q σ (i + 1) (i + 1) → ∃ τ,Q τ ∧ Ev (fun k=>slices_insertionSortCmpFunc_int.l0 k (nI σ) 0 (q.length:Int) (encL q) ((i + 1:Nat):Int)) (nI τ)) :
  ∀ (j:Nat) (σ:List Nat),j ≤ i → On q σ (i + 1) j → ∃ τ,Q τ ∧ Ev (fun k=>slices_insertionSortCmpFunc_int.l1 k (nI σ) 0 (q.length:Int) (encL q) (i:Int) (j:Int)) (nI τ):=by
 intro j
 induction j with
 | zero =>
  intro σ _ h
  obtain ⟨τ,hτ,he⟩:=out σ ⟨h.perm,fun a b hab hb _=>h.ord a b hab hb (by omega)⟩
  refine ⟨τ,hτ,Ev.step (fun k=>?_) he⟩
  rw [slices_insertionSortCmpFunc_int.l1,if_neg (by omega),wrap_succ (by omega)]
 | succ j ih =>
  intro σ hj h
  have hlen:=h.len
  have hj1:j + 1 < σ.length:=by omega
  have hj0:j < σ.length:=by omega
  have l1:=h.lt hj1
  have l0:=h.lt hj0
  have hev:=ev_less hf l1 l0
  have ew:wrap64 (((j + 1:Nat):Int) - 1) = (j:Int):=by unfold wrap64;omega
  have g1:σ.getD (j + 1) 0 = σ[j + 1]:=by simp [hj1]
  have g0:σ.getD j 0 = σ[j]:=by simp [hj0]
  have v1:q.getD σ[j + 1] 0 = q[σ[j + 1]]:=by simp [l1]
  have v0:q.getD σ[j] 0 = q[σ[j]]:=by simp [l0]
  have start:∀ k,slices_insertionSortCmpFunc_int.l1 (k + 1) (nI σ) 0 (q.length:Int) (encL q) (i:Int) ((j + 1:Nat):Int) = (api_Frac_1.f k ((σ[j + 1]:Nat):Int) ((σ[j]:Nat):Int) 0 (encL q)).bind fun t=>if t < 0 then slices_insertionSortCmpFunc_int.l1 k (((nI σ).set (j + 1) ((σ[j]:Nat):Int)).set j ((σ[j + 1]:Nat):Int)) 0 (q.length:Int) (encL q) (i:Int) (j:Int) else slices_insertionSortCmpFunc_int.l0 k (nI σ) 0 (q.length:Int) (encL q) ((i + 1:Nat):Int):=by
   intro k
   rw [slices_insertionSortCmpFunc_int.l1,ew,nI_length,if_pos (by omega),if_pos (by omega),if_pos (by omega),if_pos (by omega),if_pos (by omega),rdN hj1,rdN hj0,Int.toNat_natCast,Int.toNat_natCast,wrap_succ (by omega)]
  by_cases hlt:q[σ[j + 1]] < q[σ[j]]
  ·obtain ⟨σ',hσ'⟩:∃ σ',σ' = (σ.set (j + 1) σ[j]).set j σ[j + 1]:=⟨_,rfl⟩
   have hget:∀ a,σ'.getD a 0 = if a = j then σ[j + 1] else if a = j + 1 then σ[j] else σ.getD a 0:=by
    intro a
    rw [hσ']
    simp only [List.getD_eq_getElem?_getD,List.getElem?_set]
    by_cases e1:a = j
    ·subst e1;simp [hj0]
    ·rw [if_neg (fun e=>e1 e.symm),if_neg e1]
     by_cases e2:a = j + 1
     ·subst e2;simp [hj1]
     ·rw [if_neg (fun e=>e2 e.symm),if_neg e2]
   have hp:σ'.Perm σ:=by rw [hσ'];exact List.set_set_perm (i:=j + 1) (j:=j) hj1 hj0
   have hon:On q σ' (i + 1) j:=⟨hp.trans h.perm,fun a b hab hb hbj=>by
    rw [hget a,hget b,if_neg hbj]
    by_cases b1:b = j + 1
    ·rw [if_pos b1]
     by_cases a1:a = j
     ·rw [if_pos a1,v1,v0];exact Rat.le_of_lt hlt
     ·rw [if_neg a1,if_neg (by omega),← g0]
      exact h.ord a j (by omega) (by omega) (by omega)
    ·rw [if_neg b1]
     by_cases a1:a = j
     ·rw [if_pos a1,← g1]
      exact h.ord (j + 1) b (by omega) hb (by omega)
     ·rw [if_neg a1]
      by_cases a2:a = j + 1
      ·rw [if_pos a2,← g0]
       exact h.ord j b (by omega) hb (by omega)
      ·rw [if_neg a2]
       exact h.ord a b hab hb b1⟩
   obtain ⟨τ,hτ,he⟩:=ih σ' (by omega) hon
   refine ⟨τ,hτ,Ev.step start (Ev.bind hev ?_)⟩
   refine Ev.congr (fun k=>if_pos ((cmpR_lt _ _).2 hlt)) ?_
   have e:((nI σ).set (j + 1) ((σ[j]:Nat):Int)).set j ((σ[j + 1]:Nat):Int) = nI σ':=by
    rw [hσ']
    unfold nI
    rw [List.map_set,List.map_set]
    rfl
   rw [e]
   exact he
  ·obtain ⟨τ,hτ,he⟩:=out σ ⟨h.perm,fun a b hab hb _=>by
    by_cases b1:b = j + 1
    ·subst b1
     have hle:q[σ[j]] ≤ q[σ[j + 1]]:=by grind
     by_cases a1:a = j
     ·rw [a1,g0,g1,v0,v1];exact hle
     ·have:=h.ord a j (by omega) (by omega) (by omega)
      rw [g0,v0] at this
      rw [g1,v1]
      exact Rat.le_trans this hle
    ·exact h.ord a b hab hb b1⟩
   refine ⟨τ,hτ,Ev.step start (Ev.bind hev ?_)⟩
   exact Ev.congr (fun k=>if_neg (fun e=>hlt ((cmpR_lt _ _).1 e))) he
theorem sort_l0:∀ (d i:Nat) (σ:List Nat),i + d = q.length → On q σ i i → ∃ τ,On q τ q.length q.length ∧ Ev (fun k=>slices_insertionSortCmpFunc_int.l0 k (nI σ) 0 (q.length:Int) (encL q) (i:Int)) (nI τ):=by
 intro d
 induction d with
 | zero =>
  intro i σ hi h
  have:i = q.length:=by omega
  subst this
  refine ⟨σ,h,Ev.step (f:=fun _=>some (nI σ)) (fun k=>?_) (Ev.now _)⟩
  rw [slices_insertionSortCmpFunc_int.l0,if_neg (by omega)]
 | succ d ih =>
  intro i σ hi h
  obtain ⟨τ,hτ,he⟩:=sort_l1 hf hn (i:=i) (by omega) (fun τ=>On q τ q.length q.length) (fun σ' h'=>ih (i + 1) σ' (by omega) h') i σ (Nat.le_refl _) ⟨h.perm,fun a b hab hb hbi=>h.ord a b hab (by omega) hbi⟩
  refine ⟨τ,hτ,Ev.step (fun k=>?_) he⟩
  rw [slices_insertionSortCmpFunc_int.l0,if_pos (by omega)]
theorem by_l0:∀ (d i:Nat),i + d = q.length → ∃ τ,On q τ q.length q.length ∧ Ev (fun k=>by_compare.l0 k (nI (List.range i)) (q.length:Int) (i:Int) (encL q)) (nI τ):=by
 intro d
 induction d with
 | zero =>
  intro i hi
  have:i = q.length:=by omega
  subst this
  have hs:∃ τ,On q τ q.length q.length ∧ Ev (fun k=>slices_insertionSortCmpFunc_int.l0 k (nI (List.range q.length)) 0 (q.length:Int) (encL q) 1) (nI τ):=by
   by_cases h0:q.length = 0
   ·refine ⟨List.range q.length,⟨List.Perm.refl _,fun a b _ hb _=>by omega⟩,Ev.step (f:=fun _=>some (nI (List.range q.length))) (fun k=>?_) (Ev.now _)⟩
    rw [slices_insertionSortCmpFunc_int.l0,if_neg (by omega)]
   ·obtain ⟨τ,hτ,he⟩:=sort_l0 hf hn (q.length - 1) 1 (List.range q.length) (by omega) ⟨List.Perm.refl _,fun a b hab hb _=>by omega⟩
    exact ⟨τ,hτ,he⟩
  obtain ⟨τ,hτ,he⟩:=hs
  refine ⟨τ,hτ,Ev.step (f:=fun k=>(slices_SortStableFunc_int_int.f k (nI (List.range q.length)) (encL q)).bind fun t=>some t) (fun k=>?_) (Ev.bind ?_ (Ev.now _))⟩
  ·rw [by_compare.l0,if_neg (by omega)]
  ·unfold slices_SortStableFunc_int_int.f slices_stableCmpFunc_int.f
   rw [nI_length,List.length_range]
   refine Ev.bind (a:=nI τ) ?_ (Ev.now _)
   refine Ev.congr (fun k=>if_pos (by omega)) ?_
   refine Ev.step (f:=fun k=>(slices_insertionSortCmpFunc_int.f k (nI (List.range q.length)) 0 (q.length:Int) (encL q)).bind fun t=>slices_stableCmpFunc_int.l1 k t) (fun k=>rfl) (Ev.bind (a:=nI τ) ?_ ?_)
   ·unfold slices_insertionSortCmpFunc_int.f
    have:wrap64 ((0:Int) + 1) = 1:=wrap_id (by omega) (by omega)
    rw [this]
    exact he
   ·exact Ev.step (f:=fun _=>some (nI τ)) (fun k=>rfl) (Ev.now _)
 | succ d ih =>
  intro i hi
  obtain ⟨τ,hτ,he⟩:=ih (i + 1) (by omega)
  refine ⟨τ,hτ,Ev.step (fun k=>?_) he⟩
  rw [by_compare.l0,if_pos (by omega),if_pos (by rw [nI_length,List.length_range];omega),wrap_succ (by omega)]
  congr 1
  unfold nI
  rw [List.range_succ,List.map_append]
  rfl
theorem ev_by:∃ τ:List Nat,τ.Perm (List.range q.length) ∧ (τ.map fun i=>q.getD i 0).Pairwise (· ≤ ·) ∧ Ev (fun k=>by_compare.f k (encL q)) (nI τ):=by
 obtain ⟨τ,hτ,he⟩:=by_l0 hf hn q.length 0 (by omega)
 refine ⟨τ,hτ.perm,?_,?_⟩
 ·rw [List.pairwise_iff_getElem]
  intro a b ha hb hab
  rw [List.length_map] at ha hb
  rw [List.getElem_map,List.getElem_map]
  have:=hτ.ord a b hab (by rw [← hτ.len];exact hb) (by rw [← hτ.len];omega)
  simpa [ha,hb] using this
 ·unfold by_compare.f
  rw [encL_length]
  exact he
end
end Go.Proofs.Ytjohcjfmlhihbaa.P
namespace Go.Proofs.Ytjohcjfmlhihbaa.P
open Go Go.RowKit Go.Proofs.Ytjohcjfmlhihbaa.G
open Go.Proofs.YtjohcjfmlhihbaaW.PrintWords Go.Proofs.YtjohcjfmlhihbaaW.PrintMore
def fac:Nat → Nat
 | 0=>1
 | n + 1=>(n + 1) * fac n
theorem fac_pos:∀ n,1 ≤ fac n
 | 0=>Nat.le_refl _
 | n + 1=>by rw [fac];exact Nat.mul_pos (by omega) (fac_pos n)
structure OkE (E:Rat) (D left:Nat):Prop where
 lo:0 ≤ E
 hi:E ≤ ((10000:Nat):Rat)
 den:E.den ∣ D
 two:2 ∣ D
 pos:0 < D
 small:D * fac left ≤ 7257600
structure OkC (c:Rat):Prop where
 lo:0 ≤ c
 hi:c ≤ ((1000:Nat):Rat)
 den:c.den ∣ 2
theorem num_abs {q:Rat} {B D:Nat} (h0:0 ≤ q) (h1:q ≤ (B:Rat)) (hd:q.den ≤ D):q.num.natAbs ≤ B * D:=by
 have:=num_of h0 h1 hd
 omega
theorem OkC.sm {c:Rat} (h:OkC c):Sm 2000 2 c:=⟨num_abs h.lo h.hi (den_le_of_dvd h.den (by omega)),den_le_of_dvd h.den (by omega)⟩
theorem OkE.le {E:Rat} {D left:Nat} (h:OkE E D left):D ≤ 7257600:=by
 have h1:=h.small
 have h2:D * 1 ≤ D * fac left:=Nat.mul_le_mul_left _ (fac_pos left)
 omega
theorem OkE.sm {E:Rat} {D left:Nat} (h:OkE E D left):Sm 72576000000 7257600 E:=by
 have hd:=Nat.le_trans (den_le_of_dvd h.den h.pos) h.le
 exact ⟨num_abs h.lo h.hi hd,hd⟩
theorem over_den (E:Rat) {n:Nat} (hn:0 < n):(E / (n:Rat)).den ∣ E.den * n:=by
 rw [← mk_over E hn]
 exact den_dvd _ (Nat.ne_of_gt (Nat.mul_pos (den_pos E) hn))
theorem nat_pos_rat {n:Nat} (h:0 < n):(0:Rat) < (n:Rat):=Rat.natCast_pos.2 h
end Go.Proofs.Ytjohcjfmlhihbaa.P
namespace Go.Proofs.Ytjohcjfmlhihbaa.P
open Go Go.RowKit Go.Proofs.Ytjohcjfmlhihbaa.G
open Go.Proofs.YtjohcjfmlhihbaaW.PrintWords Go.Proofs.YtjohcjfmlhihbaaW.PrintMore
theorem tot_den {D:Nat} (h0:0 < D):∀ {l:List Rat},(∀ c ∈ l,c.den ∣ D) → (tot l).den ∣ D
 | [],_=>Nat.one_dvd _
 | a :: l,h=>add_den_dvd' (h a (by simp)) (tot_den h0 (fun c hc=>h c (List.mem_cons_of_mem _ hc))) h0
theorem tot_min (L:Rat):∀ l:List Rat,tot (l.map fun c=>min c L) = tot (l.map fun c=>if c ≤ L then c else 0) + ((l.countP fun c=>decide (L < c):Nat):Rat) * L
 | []=>by simp [tot_nil];grind
 | a :: l=>by
  rw [List.map_cons,List.map_cons,tot_cons,tot_cons,tot_min L l,List.countP_cons,Rat.min_def]
  by_cases h:a ≤ L
  ·have h':¬ L < a:=by grind
   rw [if_pos h,if_pos h,if_neg (by simpa using h')]
   push_cast;grind
  ·have h':L < a:=by grind
   rw [if_neg h,if_neg h,if_pos (by simpa using h')]
   push_cast;grind
theorem IsEq.den {l:List Rat} {E:Rat} {x:List Rat} (h:IsEq l E x) {D:Nat} (h0:0 < D) (hl:∀ c ∈ l,c.den ∣ D) (hE:E.den ∣ D):∀ y ∈ x,∃ m,1 ≤ m ∧ m ≤ l.length ∧ y.den ∣ D * m:=by
 obtain ⟨L,rfl,ht⟩:=h
 intro y hy
 obtain ⟨c,hc,rfl⟩:=List.mem_map.1 hy
 have hlen:1 ≤ l.length:=List.length_pos_iff.2 (List.ne_nil_of_mem hc)
 rw [Rat.min_def]
 by_cases h1:c ≤ L
 ·rw [if_pos h1]
  exact ⟨1,Nat.le_refl _,hlen,by rw [Nat.mul_one];exact hl c hc⟩
 ·rw [if_neg h1]
  obtain ⟨m,hm⟩:∃ m,l.countP (fun c=>decide (L < c)) = m:=⟨_,rfl⟩
  have hm1:1 ≤ m:=by
   rw [← hm]
   exact List.countP_pos_iff.2 ⟨c,hc,by simp;grind⟩
  have hm2:m ≤ l.length:=by rw [← hm];exact List.countP_le_length
  rw [tot_min,hm] at ht
  have hS:(tot (l.map fun c=>if c ≤ L then c else 0)).den ∣ D:=tot_den h0 (fun z hz=>by
   obtain ⟨d,hd,rfl⟩:=List.mem_map.1 hz
   split
   ·exact hl d hd
   ·exact Nat.one_dvd _)
  have hp:=nat_pos_rat (n:=m) (by omega)
  have hL:L = (E - tot (l.map fun c=>if c ≤ L then c else 0)) / (m:Rat):=by
   rw [← ht]
   have:(tot (l.map fun c=>if c ≤ L then c else 0) + (m:Rat) * L - tot (l.map fun c=>if c ≤ L then c else 0)) = L * (m:Rat):=by grind
   rw [this]
   exact (Rat.mul_div_cancel (by grind)).symm
  refine ⟨m,hm1,hm2,?_⟩
  rw [hL]
  exact Nat.dvd_trans (over_den _ (by omega)) (Nat.mul_dvd_mul_right (sub_den_dvd' hE hS h0) _)
end Go.Proofs.Ytjohcjfmlhihbaa.P
namespace Go.Proofs.Ytjohcjfmlhihbaa.P
open Go Go.RowKit Go.Proofs.Ytjohcjfmlhihbaa.G
open Go.Proofs.YtjohcjfmlhihbaaW.PrintWords Go.Proofs.YtjohcjfmlhihbaaW.PrintMore
structure Rq (l:List Int) (E e:Int) (done:List Bool) (left:Nat) (out:List S23):Prop where
 dl:done.length = l.length
 ol:out.length = l.length
 cnt:(left:Rat) = S l.length (fun i=>if done.getD i false then 0 else 1)
 est:(e:Rat) = (E:Rat) - S l.length (fun i=>if done.getD i false then ((l.getD i 0:Int):Rat) else 0)
 e0:0 ≤ e
 eb:e ≤ 20000
 lb:left ≤ 10
 ok:∀ i,i < l.length → done.getD i false = true → l.getD i 0 * (left:Int) ≤ e ∧ out.getD i z23 = encQ ((l.getD i 0:Int):Rat)
end Go.Proofs.Ytjohcjfmlhihbaa.P
set_option linter.unusedSectionVars false
namespace Go.Proofs.Ytjohcjfmlhihbaa.P
open Go Go.RowKit Go.Proofs.Ytjohcjfmlhihbaa.G
open Go.Proofs.YtjohcjfmlhihbaaW.PrintWords Go.Proofs.YtjohcjfmlhihbaaW.PrintMore
theorem awake_now:numnahlaw07_awake.f 60 = some true:=by kernel_rfl
theorem ev_awake:Ev (fun k=>numnahlaw07_awake.f k) true:=Ev.of (fun k=>numnahlaw07_awake.mono k) awake_now
end Go.Proofs.Ytjohcjfmlhihbaa.P
namespace Go.Proofs.Ytjohcjfmlhihbaa.G
open Go.RowKit Go.Proofs.YtjohcjfmlhihbaaW.PrintWords Go.Proofs.YtjohcjfmlhihbaaW.PrintLast Go.Proofs.YtjohcjfmlhihbaaW.PrintMore
set_option maxHeartbeats 8000000
set_option maxRecDepth 100000
attribute [local go_sem] cond_true cond_false fld23_0 fld23_1 fld45_0 fld45_1 fld109_0 fld109_1 fld94_0 fld94_1 max2_int min2_int max_two min_two max_three min_three max_four min_four   -- for this text's walks alone
def numnahlaw07_mod.f (a0:Int) (a1:Int):Option (Int):=if (IntKind.u64.wrap (a1)) = 0 then (none) else (some (wrap64 (Int.tmod (IntKind.u64.wrap (a0)) (IntKind.u64.wrap (a1)))))
theorem numnahlaw07_mod.calls (a0:Int) (a1:Int) (r:Int) (w:World) (h:numnahlaw07_mod.f a0 a1 = some r) :
  Calls Try.prog 29 #[.int .i64 a0,.int .i64 a1] w fun e w'=>e = .returned (.int .i64 r) ∧ Drawn0 w w':=by
 have H:(if (IntKind.u64.wrap (a1)) = 0 then (none) else (some (wrap64 (Int.tmod (IntKind.u64.wrap (a0)) (IntKind.u64.wrap (a1)))))) = some r:=h
 clear h
 by_cases c3:(IntKind.u64.wrap (a1)) = 0
 ·rw [if_pos c3] at H
  exact absurd H (by simp)
 rw [if_neg c3] at H
 have a2:((IntKind.u64.wrap (a1)) == 0) = false:=beq_eq_false_iff_ne.mpr c3
 have a3:((IntKind.u64.wrap (a1)) != 0) = true:=bne_iff_ne.mpr c3
 obtain rfl:=Option.some.inj H
 go_enter Try.func29,Try.ntmps29
 go_wp2
 go_ret
 exact ⟨by first | rfl | (simp;done) | (simp [*];done),by repeat (first | exact Drawn0.refl _ | apply Drawn0.step)⟩
end Go.Proofs.Ytjohcjfmlhihbaa.G
namespace Go.Proofs.Ytjohcjfmlhihbaa.G
open Go.RowKit Go.Proofs.YtjohcjfmlhihbaaW.PrintWords Go.Proofs.YtjohcjfmlhihbaaW.PrintLast Go.Proofs.YtjohcjfmlhihbaaW.PrintMore
set_option maxHeartbeats 8000000
set_option maxRecDepth 100000
attribute [local go_sem] cond_true cond_false fld23_0 fld23_1 fld45_0 fld45_1 fld109_0 fld109_1 fld94_0 fld94_1 max2_int min2_int max_two min_two max_three min_three max_four min_four   -- for this text's walks alone
attribute [local go_sem high] eqA23
def numnahlaw07_fracs.f (l0:List (S23)):Option ((List (S23))):=if 0 ≤ (mn (l0.length:Int) 11) then (if (mn (l0.length:Int) 11) ≤ (l0.length:Int) then ((some (l0.take ((mn (l0.length:Int) 11):Int).toNat:List (S23))).bind fun a0=>(if ([]:List (S23)).length + a0.length < 8796093022208 then (some (([]:List (S23)) ++ a0)) else (none))) else (none)) else (none)
theorem numnahlaw07_fracs.calls (A0:Option Addr) (c0:Nat) (l0:List (S23)) (r:List (S23)) (w:World) (b7:Kd.C k23 w A0 l0.length l0) (b8:l0.length ≤ c0) (h:numnahlaw07_fracs.f l0 = some r) :
  Calls Try.prog 36 #[.slice A0 l0.length c0] w fun e w'=>∃ b9:Value,e = .returned (b9) ∧ Kd.R k23 23 w' w.heap.size (fun _=>True) b9 r ∧ Below w.heap.size w w':=by
 have d4:=Aside0.mk b7
 have d5:=Aside0.mk b8
 clear b7 b8
 have HB:=Aside0.mk (Below.refl w.heap.size w)
 have H:(if 0 ≤ (mn (l0.length:Int) 11) then (if (mn (l0.length:Int) 11) ≤ (l0.length:Int) then ((some (l0.take ((mn (l0.length:Int) 11):Int).toNat:List (S23))).bind fun a0=>(if ([]:List (S23)).length + a0.length < 8796093022208 then (some (([]:List (S23)) ++ a0)) else (none))) else (none)) else (none)) = some r:=h
 clear h
 obtain ⟨a1,a4⟩:∃ j_:Int,(mn (l0.length:Int) 11) = j_:=⟨_,rfl⟩
 replace H:(if 0 ≤ (a1) then (if (a1) ≤ (l0.length:Int) then ((some (l0.take ((a1):Int).toNat:List (S23))).bind fun a0=>(if ([]:List (S23)).length + a0.length < 8796093022208 then (some (([]:List (S23)) ++ a0)) else (none))) else (none)) else (none)) = some r:=by first | (rw [a4] at H;exact H) | (simp only [a4] at H ⊢;exact H)
 (try (have hji2h:a1 ≤ 11:=by (rw [← a4];unfold mn;(repeat' split) <;> omega)))
 (try (have hji2g:a1 ≤ 64:=by omega))
 (try (have hji2l:0 ≤ a1:=by (rw [← a4];unfold mn;(repeat' split) <;> omega)))
 (try (have hji2m:0 ≤ a1:=by omega))
 have c1:(if 11 < (l0.length:Int) then 11 else (l0.length:Int)) = a1:=a4
 by_cases c3:0 ≤ (a1)
 case neg =>
  rw [if_neg c3] at H
  exact absurd H (by simp)
 rw [if_pos c3] at H
 have d6:=eq_true c3
 have d7:decide (0 ≤ (a1)) = true:=decide_eq_true c3
 clear c3
 by_cases c4:(a1) ≤ (l0.length:Int)
 case neg =>
  rw [if_neg c4] at H
  exact absurd H (by simp)
 rw [if_pos c4] at H
 have d8:=eq_true c4
 have d9:decide ((a1) ≤ (l0.length:Int)) = true:=decide_eq_true c4
 clear c4
 obtain ⟨a0,a2⟩:∃ y_:List (S23),y_ = (l0.take ((a1):Int).toNat):=⟨_,rfl⟩
 replace H:(if ([]:List (S23)).length + a0.length < 8796093022208 then (some (([]:List (S23)) ++ a0)) else (none)) = some r:=by first | (rw [a2];with_reducible exact H) | (have a6:=(Option.bind_some _ _).symm.trans H;rw [a2];with_reducible exact a6) | (have a6:=(Option.bind_some _ _).symm.trans H;with_reducible exact a6) | with_reducible exact H | (rw [a2];exact H) | exact H
 have a5:=Aside0.mk a2
 clear a2
 by_cases c5:([]:List (S23)).length + a0.length < 8796093022208
 case neg =>
  rw [if_neg c5] at H
  exact absurd H (by simp)
 rw [if_pos c5] at H
 have b2:=Aside0.mk c5
 clear c5
 obtain ⟨b3,a3⟩:∃ y_:List (S23),y_ = (([]:List (S23)) ++ a0):=⟨_,rfl⟩
 replace H:(some b3) = some r:=by first | (rw [a3];with_reducible exact H) | (have a6:=(Option.bind_some _ _).symm.trans H;rw [a3];with_reducible exact a6) | (have a6:=(Option.bind_some _ _).symm.trans H;with_reducible exact a6) | with_reducible exact H | (rw [a3];exact H) | exact H
 have a7:=Aside0.mk a3
 clear a3
 obtain rfl:=Option.some.inj H
 have q6:((a1):Int) ≤ ((l0.length:Int):Int):=of_decide_eq_true (by first | (with_reducible assumption) | assumption)
 obtain ⟨e1,a8,_,b4,_⟩:=info_parts info23
 have hroom6:l0.length ≤ c0:=d5.out
 have d0:Kd.C k23 _ A0 l0.length l0:=d4.out
 have a9:=cut_to (P:=Try.prog) 35 23 .i64 Try.underlying35 a8 A0 l0.length c0 (a1) (of_decide_eq_true (by first | (with_reducible assumption) | assumption)) q6 hroom6
 have b5:=Kd.C_take (m:=((a1):Int).toNat) d0 (by omega)
 have b6:a0.length = ((a1):Int).toNat:=(by rw [a5.out,List.length_take];omega)
 rw [← a5.out] at b5
 rw [← b6] at a9
 have b0:=Aside0.mk b5
 have d1:=Aside0.mk (show a0.length ≤ c0 from by omega)
 clear b5 d0 hroom6 a8 b4
 have e2:=Aside0.mk b6
 clear b6
 replace q6:=eq_true q6
 go_enter Try.func36,Try.ntmps36
 go_wp2_with (first | ((with_reducible refine gate_builtin (b:=.append) (xs:=#[.tmp 4,.tmp 9]) rfl ?_);at_builtin;refine Kd.R_append_rows k23 (w0:=w) w.heap.size rfl (.tmp 4) (.tmp 9) 35 23 (.agg #[(.int .i64 0),(.int .i64 0)]) 16 rfl Try.underlying35 info23 rfl (by decide) (by omega) (.slice none 0 0) ([]:List (S23)) a0 _ _ _ (fun _=>True) (fun _=>False) rfl rfl ?aO ?aR (fun _ _ h=>h) (fun _ h=>h.elim) ?aF ?aB ?aS ?aL ?_;(case aR=>repeat (first | exact b0.out | (with_reducible refine Kd.C_alloc ?_ _) | (with_reducible refine Kd.C_drewN ?_ _) | (with_reducible refine Kd.C_drew ?_)));(case aB=>exact (by repeat (first | (with_reducible first | exact HB.out | apply below_alloc | apply pw_below_drewN | apply below_drew1) | exact HB.out)));(case aF=>exact (fun _ _=>trivial));(case aO=>exact ((Kd.R_nil _ _ _ _ (fun _=>True))));(case aS=>exact (below_size (by repeat (first | (with_reducible first | exact HB.out | apply below_alloc | apply pw_below_drewN | apply below_drew1) | exact HB.out))));(case aL=>have:=b2.out;omega);intro e0 w7 ho hb hg hat;rw [← a7.out] at ho;have d2:=Aside0.mk (hb);have d3:=Aside0.mk (ho);clear HB;have HB:=d2;have b1:=d3;clear d2 d3;clear ho hb hg hat))
 go_ret
 exact ⟨_,by first | rfl | (simp [errW_none,errW_some] <;> rfl) | (simp only [← a4];first | rfl | (simp [errW_none,errW_some] <;> rfl)) | (simp [*,errW_none,errW_some] <;> rfl),by (with_reducible repeat (first | apply Kd.R_alloc | apply Kd.R_drewN | apply Kd.R_drew));exact b1.out,by repeat (first | (with_reducible first | exact HB.out | apply below_alloc | apply pw_below_drewN | apply below_drew1) | exact HB.out)⟩
end Go.Proofs.Ytjohcjfmlhihbaa.G
set_option linter.unusedSectionVars false
namespace Go.Proofs.Ytjohcjfmlhihbaa.P
open Go Go.RowKit Go.Proofs.Ytjohcjfmlhihbaa.G
open Go.Proofs.YtjohcjfmlhihbaaW.PrintWords Go.Proofs.YtjohcjfmlhihbaaW.PrintMore
theorem S23_ext {a b:S23} (h0:a.f0 = b.f0) (h1:a.f1 = b.f1):a = b:=by cases a;cases b;simp_all
instance:DecidableEq S23:=fun a b=>decidable_of_iff (a.f0 = b.f0 ∧ a.f1 = b.f1) ⟨fun h=>S23_ext h.1 h.2,fun h=>by rw [h];exact ⟨rfl,rfl⟩⟩
theorem rdT {a:List S23} {i:Nat} (h:i < a.length):rd_T23 a (i:Int) = a[i]:=by unfold rd_T23;simp [h]
theorem same_l0 {a b:List S23} (hl:a.length = b.length) (hs:a.length ≤ 1000000):∀ (d i:Nat),i + d = a.length → a.take i = b.take i → Ev (fun k=>numnahref07_Same.l0 k a b (i:Int)) (decide (a = b)):=by
 intro d
 induction d with
 | zero =>
  intro i hi ht
  rw [List.take_of_length_le (by omega),List.take_of_length_le (by omega)] at ht
  rw [decide_eq_true ht]
  refine Ev.step (f:=fun _=>some true) (fun k=>?_) (Ev.now _)
  rw [numnahref07_Same.l0,if_neg (by omega)]
 | succ d ih =>
  intro i hi ht
  have ha:i < a.length:=by omega
  have hb:i < b.length:=by omega
  by_cases e:a[i] = b[i]
  ·refine Ev.step (fun k=>?_) (ih (i + 1) (by omega) (by rw [List.take_succ_eq_append_getElem ha,List.take_succ_eq_append_getElem hb,ht,e]))
   rw [numnahref07_Same.l0,if_pos (by omega),if_pos (by omega),if_pos (by omega),rdT ha,rdT hb,e,if_neg (by simp),wrap_succ (by omega)]
  ·have hne:a ≠ b:=fun h=>e (by subst h;rfl)
   rw [decide_eq_false hne]
   refine Ev.step (f:=fun _=>some false) (fun k=>?_) (Ev.now _)
   rw [numnahref07_Same.l0,if_pos (by omega),if_pos (by omega),if_pos (by omega),rdT ha,rdT hb,if_pos]
   apply Classical.byContradiction
   intro h
   apply e
   simp only [Bool.or_eq_true,Bool.not_eq_true',beq_eq_false_iff_ne,not_or,Decidable.not_not,ne_eq] at h
   exact S23_ext h.1 h.2
theorem ev_same {a b:List S23} (hs:a.length ≤ 1000000):Ev (fun k=>numnahref07_Same.f k a b) (decide (a = b)):=by
 unfold numnahref07_Same.f
 by_cases hl:a.length = b.length
 ·refine Ev.congr (fun k=>if_pos (by omega)) ?_
  exact same_l0 hl hs a.length 0 (by omega) rfl
 ·rw [decide_eq_false (fun h=>hl (by rw [h]))]
  exact Ev.congr (fun k=>if_neg (by omega)) (Ev.now _)
theorem mn11 {n:Nat}:mn (n:Int) 11 = ((min n 11:Nat):Int):=by unfold mn;split <;> omega
theorem fracs_f (l:List S23):numnahlaw07_fracs.f l = some (l.take 11):=by
 unfold numnahlaw07_fracs.f
 rw [mn11,if_pos (by omega),if_pos (by omega),Int.toNat_natCast]
 simp only [Option.bind_some,List.nil_append,List.length_nil]
 rw [if_pos (by rw [List.length_take];omega)]
 congr 1
 by_cases h:l.length ≤ 11
 ·rw [List.take_of_length_le (by omega),List.take_of_length_le h]
 ·rw [show min l.length 11 = 11 by omega]
theorem mod_some (x:Int) {n:Int} (h0:0 < n) (h1:n ≤ 9223372036854775807):∃ m,0 ≤ m ∧ m < n ∧ numnahlaw07_mod.f x n = some m:=by
 unfold numnahlaw07_mod.f
 have e:IntKind.u64.wrap n = n:=by
  rw [show IntKind.u64.wrap n = n % 18446744073709551616 from by first | rfl | exact IntKind.wrap_u64 n | simp [IntKind.wrap]]
  omega
 obtain ⟨u,hu⟩:∃ u,IntKind.u64.wrap x = u:=⟨_,rfl⟩
 have hu0:0 ≤ u ∧ u ≤ 18446744073709551615:=by
  rw [← hu,show IntKind.u64.wrap x = x % 18446744073709551616 from by first | rfl | exact IntKind.wrap_u64 x | simp [IntKind.wrap]]
  omega
 rw [e,hu,if_neg (by omega),Int.tmod_eq_emod_of_nonneg hu0.1]
 have m0:=Int.emod_nonneg u (show n ≠ 0 by omega)
 have m1:=Int.emod_lt_of_pos u h0
 exact ⟨u % n,m0,m1,by rw [wrap_id (by omega) (by omega)]⟩
theorem IsRule.len {r:Nat} {q:List Rat} {E:Rat} {x:List Rat} (h:IsRule r q E x):x.length = q.length:=by
 obtain ⟨_,_,rfl,_⟩:=h
 exact List.length_map _
end Go.Proofs.Ytjohcjfmlhihbaa.P
namespace Go.Proofs.Ytjohcjfmlhihbaa.G
open Go.RowKit Go.Proofs.YtjohcjfmlhihbaaW.PrintWords Go.Proofs.YtjohcjfmlhihbaaW.PrintLast Go.Proofs.YtjohcjfmlhihbaaW.PrintMore
set_option maxHeartbeats 8000000
set_option maxRecDepth 100000
attribute [local go_sem] cond_true cond_false fld23_0 fld23_1 fld45_0 fld45_1 fld109_0 fld109_1 fld94_0 fld94_1 max2_int min2_int max_two min_two max_three min_three max_four min_four   -- for this text's walks alone
def shares_sum.l0:Nat → List (S23) → Int → Int → Int → Int → Option (Int × Int)
 | 0,_,_,_,_,_=>none
 | k + 1,x7,x8,x9,b9,c1=>if x9 < x8 then (if 0 ≤ x9 then (if x9 < (x7.length:Int) then ((shares_add.f k b9 c1 ((rd_T23 x7 x9).f0) ((rd_T23 x7 x9).f1)).bind fun d6=>(shares_sum.l0 k x7 x8 (wrap64 (x9 + 1)) d6.1 d6.2)) else (none)) else (none)) else (some (b9,c1))
def shares_sum.f (k:Nat) (l0:List (S23)):Option (Int × Int):=(shares_whole.f 0).bind fun b6=>(shares_sum.l0 k l0 (l0.length:Int) 0 b6.1 b6.2)
theorem shares_sum.mono_l:∀ k,(∀ y0 y1 y2 y3 y4,LeO (shares_sum.l0 k y0 y1 y2 y3 y4) (shares_sum.l0 (k + 1) y0 y1 y2 y3 y4))
 | 0=>fun _ _ _ _ _ r h=>by simp [shares_sum.l0] at h
 | k + 1=>by
  have e8:=shares_sum.mono_l k
  intro y0 y1 y2 y3 y4
  unfold shares_sum.l0
  repeat' first
  | (with_reducible exact e8 _ _ _ _ _)
  | (with_reducible exact shares_add.mono _ _ _ _ _)
  | (with_reducible exact LeO.refl _)
  | (with_reducible exact LeO.none _)
  | (with_reducible refine LeO.ite ?_ ?_)
  | (with_reducible refine LeO.bind ?_ (fun _=>?_))
  | exact e8 _ _ _ _ _
  | exact shares_add.mono _ _ _ _ _
  | exact LeO.none _
  | refine LeO.ite ?_ ?_
  | refine LeO.bind ?_ (fun _=>?_)
theorem shares_sum.mono:∀ a0 k,LeO (shares_sum.f k a0) (shares_sum.f (k + 1) a0):=by
 intro a0 k
 have e8:=shares_sum.mono_l k
 unfold shares_sum.f
 repeat' first
   | (with_reducible exact e8 _ _ _ _ _)
   | (with_reducible exact shares_add.mono _ _ _ _ _)
   | (with_reducible exact LeO.refl _)
   | (with_reducible exact LeO.none _)
   | (with_reducible refine LeO.ite ?_ ?_)
   | (with_reducible refine LeO.bind ?_ (fun _=>?_))
   | exact e8 _ _ _ _ _
   | exact shares_add.mono _ _ _ _ _
   | exact LeO.none _
   | refine LeO.ite ?_ ?_
   | refine LeO.bind ?_ (fun _=>?_)
theorem shares_sum.calls (k:Nat) (A0:Option Addr) (c0:Nat) (l0:List (S23)) (r1:Int) (r2:Int) (w:World) (i9:Kd.C k23 w A0 l0.length l0) (j5:l0.length ≤ c0) (h:shares_sum.f k l0 = some (r1,r2)) :
  Calls Try.prog 83 #[.slice A0 l0.length c0] w fun e w'=>e = .returned (.agg #[.int .i64 r1,.int .i64 r2]) ∧ Below w.heap.size w w':=by
 have m6:=Try.underlying23
 have m7:=Aside0.mk i9
 have n2:=Aside0.mk j5
 clear i9 j5
 have HB:=Aside0.mk (Below.refl w.heap.size w)
 have H:((shares_whole.f 0).bind fun b6=>(shares_sum.l0 k l0 (l0.length:Int) 0 b6.1 b6.2)) = some (r1,r2):=h
 clear h
 replace H:=Option.bind_eq_some_iff.mp H
 obtain ⟨⟨d2,d7⟩,A20,H⟩:=H
 replace H:(shares_sum.l0 k l0 (l0.length:Int) 0 d2 d7) = some (r1,r2):=H
 have A2:=Aside0.mk A20
 clear A20
 have H':=Aside0.mk H
 clear H
 go_enter Try.func83,Try.ntmps83
 go_wp2_with (first | ((with_reducible refine gate_dst (N:=2) rfl ?_);refine box_event ?hg (N:=2) ?hd (cs:=#[.int .i64 0,.int .i64 0]) (t:=23) ?hr ?_;(case hd=>rfl);(case hg=>rfl);(case hr=>first | (go_simp;done) | (go_simp;rfl));intro a6 hg w3 hbox hb;have d3:=Aside0.mk (below_step (by repeat (first | (with_reducible first | exact HB.out | apply below_alloc | apply pw_below_drewN | apply below_drew1) | exact HB.out)) hb);have d4:=Aside0.mk (hbox);have d8:=Aside0.mk ((by rw [hg];exact (below_size (by repeat (first | (with_reducible first | exact HB.out | apply below_alloc | apply pw_below_drewN | apply below_drew1) | exact HB.out))):w.heap.size ≤ a6));have d9:=Aside0.mk ((by rw [hg];exact (below_size (by repeat (first | (with_reducible first | exact HB.out | apply below_alloc | apply pw_below_drewN | apply below_drew1) | exact HB.out))):w.heap.size ≤ a6));clear HB;have HB:=d3;have a4:=d4;have i4:=d8;have a8:=d9;clear d3 d4 d8 d9;clear hb hbox hg) | ((with_reducible refine gate_callee (f:=64) rfl ?_);refine goesL_ (some 6) rfl rfl Try.func64 (by kernel_rfl) rfl #[.int .i64 0] rfl (by (try simp only [List.map_toArray,List.map_cons,List.map_nil]);first | done | rfl | (simp only [List.length_drop,List.length_take];rfl)) ?_;(with_reducible refine (shares_whole.calls 0 d2 d7 _ A2.out).mono ?_);rintro e w4 ⟨rfl,hb⟩;refine ⟨_,rfl,?_⟩;have d3:=Aside0.mk (blk_below (g:=a6) (o:=.cells #[.int .i64 0,.int .i64 0] 23 (0,0)) (by (with_reducible repeat (first | refine blk_drewN ?_ _ | refine blk_drew ?_ | refine blk_alloc ?_ _));exact a4.out) hb);have d4:=Aside0.mk (below_step (by repeat (first | (with_reducible first | exact HB.out | apply below_alloc | apply pw_below_drewN | apply below_drew1 | refine below_set ?_ a8.out) | exact HB.out)) hb);clear a4;clear HB;have a4:=d3;have HB:=d4;clear d3 d4;(try clear hb)) | ((with_reducible refine gate_dst (N:=3) rfl ?_);refine box_event ?hg (N:=3) ?hd (cs:=#[.int .i64 0,.int .i64 0]) (t:=23) ?hr ?_;(case hd=>rfl);(case hg=>rfl);(case hr=>first | (go_simp;done) | (go_simp;rfl));intro a5 hg w5 hbox hb;have d3:=Aside0.mk (blk_below (g:=a6) (o:=.cells #[.int .i64 0,.int .i64 0] 23 (0,0)) (by (with_reducible repeat (first | refine blk_drewN ?_ _ | refine blk_drew ?_ | refine blk_alloc ?_ _));exact a4.out) hb);have d4:=Aside0.mk (below_step (by repeat (first | (with_reducible first | exact HB.out | apply below_alloc | apply pw_below_drewN | apply below_drew1 | refine below_set ?_ a8.out) | exact HB.out)) hb);have d8:=Aside0.mk (hbox);have d9:=Aside0.mk ((by rw [hg];exact (below_size (by repeat (first | (with_reducible first | exact HB.out | apply below_alloc | apply pw_below_drewN | apply below_drew1 | refine below_set ?_ a8.out) | exact HB.out))):w.heap.size ≤ a5));have e9:=Aside0.mk ((by rw [hg];exact (below_size (by repeat (first | (with_reducible first | exact HB.out | apply below_alloc | apply pw_below_drewN | apply below_drew1 | refine below_set ?_ a8.out) | exact HB.out))):w.heap.size ≤ a5));have g0:=Aside0.mk ((by rw [hg];exact Nat.ne_of_lt (blk_lt (g:=a6) (o:=.cells #[.int .i64 0,.int .i64 0] 23 (0,0)) (by (with_reducible repeat (first | refine blk_drewN ?_ _ | refine blk_drew ?_ | refine blk_alloc ?_ _));exact a4.out)):a6 ≠ a5));have g1:=Aside0.mk ((by rw [hg];exact Nat.ne_of_gt (blk_lt (g:=a6) (o:=.cells #[.int .i64 0,.int .i64 0] 23 (0,0)) (by (with_reducible repeat (first | refine blk_drewN ?_ _ | refine blk_drew ?_ | refine blk_alloc ?_ _));exact a4.out)):a5 ≠ a6));clear a4;clear HB;have a4:=d3;have HB:=d4;have a3:=d8;have i5:=d9;have b4:=e9;have a7:=g0;have b1:=g1;clear d3 d4 d8 d9 e9 g0 g1;clear hb hbox hg;have m8:=b1.out;have m9:=a7.out;have e4:w5.cell? ⟨a5,0,none⟩ = some (.int .i64 0):=(blk_cell a3.out 0).trans rfl;have e5:w5.cell? ⟨a5,1,none⟩ = some (.int .i64 0):=(blk_cell a3.out 1).trans rfl;have e6:=blk_frozen a3.out 0;have e7:=blk_frozen a3.out 1))
 go_loopg [9] k (fun kq v9 w'=>∃ (a9:Int) (a1:Int) (a2:Int),v9 = .int .i64 a9 ∧ Aside0 (shares_sum.l0 kq l0 (l0.length:Int) a9 a1 a2 = some (r1,r2)) ∧ Aside0 (kq ≤ k) ∧ Aside0 (w'.heap[a6]? = some (.cells #[.int .i64 0,.int .i64 0] 23 (0,0))) ∧ Aside0 (w'.heap[a5]? = some (.cells #[.int .i64 a1,.int .i64 a2] 23 (0,0))) ∧ Aside0 (Below w.heap.size w w'))
 case atStart=>exact ⟨(0),(d2),(d7),(by first | rfl | (simp;done) | (simp [*];done)),H',⟨Nat.le_refl _⟩,⟨by (with_reducible repeat (first | refine blk_drewN ?_ _ | refine blk_drew ?_ | refine blk_alloc ?_ _));refine blk_far ?_ a7.out _;(with_reducible repeat (first | refine blk_drewN ?_ _ | refine blk_drew ?_ | refine blk_alloc ?_ _));refine blk_far ?_ a7.out _;(with_reducible repeat (first | refine blk_drewN ?_ _ | refine blk_drew ?_ | refine blk_alloc ?_ _));exact a4.out⟩,⟨by (with_reducible repeat (first | refine blk_drewN ?_ _ | refine blk_drew ?_ | refine blk_alloc ?_ _));refine blk_put (cs:=#[.int .i64 d2,.int .i64 0]) ?_ 1 _ rfl;(with_reducible repeat (first | refine blk_drewN ?_ _ | refine blk_drew ?_ | refine blk_alloc ?_ _));refine blk_put (cs:=#[.int .i64 0,.int .i64 0]) ?_ 0 _ rfl;(with_reducible repeat (first | refine blk_drewN ?_ _ | refine blk_drew ?_ | refine blk_alloc ?_ _));exact a3.out⟩,⟨by repeat (first | (with_reducible first | exact HB.out | apply below_alloc | apply pw_below_drewN | apply below_drew1 | refine below_set ?_ a8.out | refine below_set ?_ b4.out) | exact HB.out)⟩⟩
 case round =>
  clear H'
  try clear p2
  try clear c6
  try clear e4
  try clear e5
  try clear e6
  try clear e7
  obtain ⟨a9,a1,a2,rfl,HA,j7,a4,a3,HB⟩:=hrel
  cases gk with
  | zero=>exact absurd HA.out (by simp [shares_sum.l0])
  | succ k1 =>
   have H:=HA.out
   clear HA
   simp only [shares_sum.l0] at H
   by_cases c8:a9 < (l0.length:Int)
   case neg =>
    rw [if_neg c8] at H
    have i6:decide (a9 < (l0.length:Int)) = false:=decide_eq_false c8
    clear c8
    simp only [Option.some.injEq,Prod.mk.injEq] at H
    obtain ⟨rfl,rfl⟩:=H
    have j8:=b1.out
    have j9:=a7.out
    have g3:wr.cell? ⟨a5,0,none⟩ = some (.int .i64 a1):=(blk_cell a3.out 0).trans rfl
    have g4:wr.cell? ⟨a5,1,none⟩ = some (.int .i64 a2):=(blk_cell a3.out 1).trans rfl
    have g5:=blk_frozen a3.out 0
    have g6:=blk_frozen a3.out 1
    have g7:wr.cell? ⟨a6,0,none⟩ = some (.int .i64 0):=(blk_cell a4.out 0).trans rfl
    have g8:wr.cell? ⟨a6,1,none⟩ = some (.int .i64 0):=(blk_cell a4.out 1).trans rfl
    have g9:=blk_frozen a4.out 0
    have h0:=blk_frozen a4.out 1
    go_wp2
    refine bodyPost_ret (results_cell_row rfl _ _ a6 23 #[.int .i64 a1,.int .i64 a2] (0,0) _ rfl (by (with_reducible repeat (first | refine blk_drewN ?_ _ | refine blk_drew ?_ | refine blk_alloc ?_ _));refine blk_put (cs:=#[.int .i64 a1,.int .i64 0]) ?_ 1 _ rfl;(with_reducible repeat (first | refine blk_drewN ?_ _ | refine blk_drew ?_ | refine blk_alloc ?_ _));refine blk_put (cs:=#[.int .i64 0,.int .i64 0]) ?_ 0 _ rfl;(with_reducible repeat (first | refine blk_drewN ?_ _ | refine blk_drew ?_ | refine blk_alloc ?_ _));exact a4.out) Try.underlying23 rfl (by kernel_rfl)) rfl ?_
    exact ⟨by first | rfl | (simp [errW_none,errW_some] <;> rfl) | (simp [*,errW_none,errW_some] <;> rfl),by repeat (first | (with_reducible first | exact HB.out | apply below_alloc | apply pw_below_drewN | apply below_drew1 | refine below_set ?_ a8.out | refine below_set ?_ b4.out) | exact HB.out)⟩
   rw [if_pos c8] at H
   have i6:decide (a9 < (l0.length:Int)) = true:=decide_eq_true c8
   clear c8
   by_cases c9:0 ≤ a9
   case neg =>
    rw [if_neg c9] at H
    exact absurd H (by simp)
   rw [if_pos c9] at H
   have n0:decide (0 ≤ a9) = true:=decide_eq_true c9
   clear c9
   by_cases c10:a9 < (l0.length:Int)
   case neg =>
    rw [if_neg c10] at H
    exact absurd H (by simp)
   rw [if_pos c10] at H
   have l5:decide (a9 < (l0.length:Int)) = true:=decide_eq_true c10
   clear c10
   replace H:=Option.bind_eq_some_iff.mp H
   obtain ⟨⟨d5,e0⟩,A110,H⟩:=H
   replace H:(shares_sum.l0 k1 l0 (l0.length:Int) (wrap64 (a9 + 1)) d5 e0) = some (r1,r2):=H
   have n1:=Aside0.mk A110
   clear A110
   have H':=Aside0.mk H
   clear H
   have e1:0 ≤ (a9:Int):=of_decide_eq_true (by first | (with_reducible assumption) | assumption)
   have e2:a9 < (l0.length:Int):=of_decide_eq_true (by first | (with_reducible assumption) | assumption)
   obtain ⟨i7,g2,b7,b8⟩:=at_T23 m7.out a9 e1 e2
   cases g2
   replace b7:=(HB.out.cell (World.block_lt_of_cell? w _ b7)).trans b7
   replace b8:=(HB.out.cell (World.block_lt_of_cell? w _ b8)).trans b8
   replace e1:=eq_true e1
   replace e2:=eq_true e2
   go_wp2_with (first | ((with_reducible refine gate_dst (N:=5) rfl ?_);refine box_event ?hg (N:=5) ?hd (cs:=#[.int .i64 0,.int .i64 0]) (t:=23) ?hr ?_;(case hd=>rfl);(case hg=>rfl);(case hr=>first | (go_simp;done) | (go_simp;rfl));intro b0 hg h1 hbox hb;have d3:=Aside0.mk (blk_below (g:=a6) (o:=.cells #[.int .i64 0,.int .i64 0] 23 (0,0)) (by (with_reducible repeat (first | refine blk_drewN ?_ _ | refine blk_drew ?_ | refine blk_alloc ?_ _));exact a4.out) hb);have d4:=Aside0.mk (blk_below (g:=a5) (o:=.cells #[.int .i64 a1,.int .i64 a2] 23 (0,0)) (by (with_reducible repeat (first | refine blk_drewN ?_ _ | refine blk_drew ?_ | refine blk_alloc ?_ _));exact a3.out) hb);have d8:=Aside0.mk (below_step (by repeat (first | (with_reducible first | exact HB.out | apply below_alloc | apply pw_below_drewN | apply below_drew1 | refine below_set ?_ a8.out | refine below_set ?_ b4.out) | exact HB.out)) hb);have d9:=Aside0.mk (hbox);have e9:=Aside0.mk ((by rw [hg];exact (below_size (by repeat (first | (with_reducible first | exact HB.out | apply below_alloc | apply pw_below_drewN | apply below_drew1 | refine below_set ?_ a8.out | refine below_set ?_ b4.out) | exact HB.out))):w.heap.size ≤ b0));have g0:=Aside0.mk ((by rw [hg];exact (below_size (by repeat (first | (with_reducible first | exact HB.out | apply below_alloc | apply pw_below_drewN | apply below_drew1 | refine below_set ?_ a8.out | refine below_set ?_ b4.out) | exact HB.out))):w.heap.size ≤ b0));have g1:=Aside0.mk ((by rw [hg];exact Nat.ne_of_lt (blk_lt (g:=a6) (o:=.cells #[.int .i64 0,.int .i64 0] 23 (0,0)) (by (with_reducible repeat (first | refine blk_drewN ?_ _ | refine blk_drew ?_ | refine blk_alloc ?_ _));exact a4.out)):a6 ≠ b0));have l6:=Aside0.mk ((by rw [hg];exact Nat.ne_of_gt (blk_lt (g:=a6) (o:=.cells #[.int .i64 0,.int .i64 0] 23 (0,0)) (by (with_reducible repeat (first | refine blk_drewN ?_ _ | refine blk_drew ?_ | refine blk_alloc ?_ _));exact a4.out)):b0 ≠ a6));have l7:=Aside0.mk ((by rw [hg];exact Nat.ne_of_lt (blk_lt (g:=a5) (o:=.cells #[.int .i64 a1,.int .i64 a2] 23 (0,0)) (by (with_reducible repeat (first | refine blk_drewN ?_ _ | refine blk_drew ?_ | refine blk_alloc ?_ _));exact a3.out)):a5 ≠ b0));have l8:=Aside0.mk ((by rw [hg];exact Nat.ne_of_gt (blk_lt (g:=a5) (o:=.cells #[.int .i64 a1,.int .i64 a2] 23 (0,0)) (by (with_reducible repeat (first | refine blk_drewN ?_ _ | refine blk_drew ?_ | refine blk_alloc ?_ _));exact a3.out)):b0 ≠ a5));clear a4;clear a3;clear HB;have a4:=d3;have a3:=d4;have HB:=d8;have b5:=d9;have i8:=e9;have e3:=g0;have b2:=g1;have d0:=l6;have b3:=l7;have d1:=l8;clear d3 d4 d8 d9 e9 g0 g1 l6 l7 l8;clear hb hbox hg;have l9:=d0.out;have m0:=b2.out;have m1:=d1.out;have m2:=b3.out;have h2:h1.cell? ⟨b0,0,none⟩ = some (.int .i64 0):=(blk_cell b5.out 0).trans rfl;have h3:h1.cell? ⟨b0,1,none⟩ = some (.int .i64 0):=(blk_cell b5.out 1).trans rfl;have h4:=blk_frozen b5.out 0;have h5:=blk_frozen b5.out 1;have m3:=b1.out;have m4:=a7.out;have h6:h1.cell? ⟨a5,0,none⟩ = some (.int .i64 a1):=(blk_cell a3.out 0).trans rfl;have h7:h1.cell? ⟨a5,1,none⟩ = some (.int .i64 a2):=(blk_cell a3.out 1).trans rfl;have h8:=blk_frozen a3.out 0;have h9:=blk_frozen a3.out 1) | ((with_reducible refine gate_callee (f:=88) rfl ?_);refine goesL_ (some 15) rfl rfl Try.func88 (by kernel_rfl) rfl #[.agg #[.int .i64 a1,.int .i64 a2],.agg #[.int .i64 ((rd_T23 l0 a9).f0),.int .i64 ((rd_T23 l0 a9).f1)]] rfl (by (try simp only [List.map_toArray,List.map_cons,List.map_nil]);first | done | rfl | (simp only [List.length_drop,List.length_take];rfl)) ?_;(with_reducible refine (shares_add.calls k1 a1 a2 ((rd_T23 l0 a9).f0) ((rd_T23 l0 a9).f1) d5 e0 _ n1.out).mono ?_);rintro e m5 ⟨rfl,hb⟩;refine ⟨_,rfl,?_⟩;have d3:=Aside0.mk (blk_below (g:=a6) (o:=.cells #[.int .i64 0,.int .i64 0] 23 (0,0)) (by (with_reducible repeat (first | refine blk_drewN ?_ _ | refine blk_drew ?_ | refine blk_alloc ?_ _));refine blk_far ?_ b2.out _;(with_reducible repeat (first | refine blk_drewN ?_ _ | refine blk_drew ?_ | refine blk_alloc ?_ _));refine blk_far ?_ b2.out _;(with_reducible repeat (first | refine blk_drewN ?_ _ | refine blk_drew ?_ | refine blk_alloc ?_ _));exact a4.out) hb);have d4:=Aside0.mk (blk_below (g:=a5) (o:=.cells #[.int .i64 a1,.int .i64 a2] 23 (0,0)) (by (with_reducible repeat (first | refine blk_drewN ?_ _ | refine blk_drew ?_ | refine blk_alloc ?_ _));refine blk_far ?_ b3.out _;(with_reducible repeat (first | refine blk_drewN ?_ _ | refine blk_drew ?_ | refine blk_alloc ?_ _));refine blk_far ?_ b3.out _;(with_reducible repeat (first | refine blk_drewN ?_ _ | refine blk_drew ?_ | refine blk_alloc ?_ _));exact a3.out) hb);have d8:=Aside0.mk (blk_below (g:=b0) (o:=.cells #[.int .i64 ((rd_T23 l0 a9).f0),.int .i64 ((rd_T23 l0 a9).f1)] 23 (0,0)) (by (with_reducible repeat (first | refine blk_drewN ?_ _ | refine blk_drew ?_ | refine blk_alloc ?_ _));refine blk_put (cs:=#[.int .i64 ((rd_T23 l0 a9).f0),.int .i64 0]) ?_ 1 _ rfl;(with_reducible repeat (first | refine blk_drewN ?_ _ | refine blk_drew ?_ | refine blk_alloc ?_ _));refine blk_put (cs:=#[.int .i64 0,.int .i64 0]) ?_ 0 _ rfl;(with_reducible repeat (first | refine blk_drewN ?_ _ | refine blk_drew ?_ | refine blk_alloc ?_ _));exact b5.out) hb);have d9:=Aside0.mk (below_step (by repeat (first | (with_reducible first | exact HB.out | apply below_alloc | apply pw_below_drewN | apply below_drew1 | refine below_set ?_ a8.out | refine below_set ?_ b4.out | refine below_set ?_ e3.out) | exact HB.out)) hb);clear a4;clear a3;clear b5;clear HB;have a4:=d3;have a3:=d4;have b5:=d8;have HB:=d9;clear d3 d4 d8 d9;(try clear hb);have i0:m5.cell? ⟨a5,0,none⟩ = some (.int .i64 a1):=(blk_cell a3.out 0).trans rfl;have i1:m5.cell? ⟨a5,1,none⟩ = some (.int .i64 a2):=(blk_cell a3.out 1).trans rfl;have i2:=blk_frozen a3.out 0;have i3:=blk_frozen a3.out 1))
   go_roundg k1
   case measure=>have:=j7.out;omega
   case rel=>exact ⟨(wrap64 (a9 + 1)),(d5),(e0),(by first | rfl | (simp;done) | (simp [*];done)),H',⟨by have:=j7.out;omega⟩,⟨by (with_reducible repeat (first | refine blk_drewN ?_ _ | refine blk_drew ?_ | refine blk_alloc ?_ _));refine blk_far ?_ a7.out _;(with_reducible repeat (first | refine blk_drewN ?_ _ | refine blk_drew ?_ | refine blk_alloc ?_ _));refine blk_far ?_ a7.out _;(with_reducible repeat (first | refine blk_drewN ?_ _ | refine blk_drew ?_ | refine blk_alloc ?_ _));exact a4.out⟩,⟨by (with_reducible repeat (first | refine blk_drewN ?_ _ | refine blk_drew ?_ | refine blk_alloc ?_ _));refine blk_put (cs:=#[.int .i64 d5,.int .i64 a2]) ?_ 1 _ rfl;(with_reducible repeat (first | refine blk_drewN ?_ _ | refine blk_drew ?_ | refine blk_alloc ?_ _));refine blk_put (cs:=#[.int .i64 a1,.int .i64 a2]) ?_ 0 _ rfl;(with_reducible repeat (first | refine blk_drewN ?_ _ | refine blk_drew ?_ | refine blk_alloc ?_ _));exact a3.out⟩,⟨by repeat (first | (with_reducible first | exact HB.out | apply below_alloc | apply pw_below_drewN | apply below_drew1 | refine below_set ?_ a8.out | refine below_set ?_ b4.out | refine below_set ?_ e3.out) | exact HB.out)⟩⟩
end Go.Proofs.Ytjohcjfmlhihbaa.G
set_option linter.unusedSectionVars false
namespace Go.Proofs.Ytjohcjfmlhihbaa.P
open Go Go.RowKit Go.Proofs.Ytjohcjfmlhihbaa.G
open Go.Proofs.YtjohcjfmlhihbaaW.PrintWords Go.Proofs.YtjohcjfmlhihbaaW.PrintMore
def inS (w:S23):Prop:=(-9223372036854775808 ≤ w.f0 ∧ w.f0 ≤ 9223372036854775807) ∧ (-9223372036854775808 ≤ w.f1 ∧ w.f1 ≤ 9223372036854775807)
theorem gcd_neg {a:Int} (ha:a < 0) {d:Nat} (hd:0 < d):Ev (fun k=>shares_gcd.f k a (d:Int)) (d:Int):=by
 refine ⟨2,fun k hk=>?_⟩
 obtain ⟨m,rfl⟩:∃ m,k = m + 1 + 1:=⟨k - 2,by omega⟩
 have h0:Int.tmod a (d:Int) ≤ 0:=by
  have:Int.tmod a (d:Int) = -(Int.tmod (-a) (d:Int)):=by rw [Int.neg_tmod,Int.neg_neg]
  rw [this]
  have:=Int.tmod_nonneg (d:Int) (show 0 ≤ -a by omega)
  omega
 show shares_gcd.l0 (m + 1 + 1) a (d:Int) = _
 rw [shares_gcd.l0,if_pos (by omega),if_neg (by omega),shares_gcd.l0,if_neg (by omega)]
theorem ev_valid {n d:Int} (hn:-9223372036854775808 ≤ n ∧ n ≤ 9223372036854775807) (hd:1 ≤ d):∃ b,Ev (fun k=>shares_isValid.f k n d) b ∧ (0 ≤ n → b = decide (Nat.gcd n.natAbs d.toNat = 1)) ∧ (n ≠ -9223372036854775808 → b = decide (Nat.gcd n.natAbs d.toNat = 1)):=by
 obtain ⟨e,rfl⟩:∃ e:Nat,d = (e:Int):=⟨d.toNat,by omega⟩
 unfold shares_isValid.f
 rw [Int.toNat_natCast]
 by_cases h:n = -9223372036854775808
 ·subst h
  have hm:mx (-9223372036854775808) (wrap64 (- -9223372036854775808)) = -9223372036854775808:=by
   have:wrap64 (- -9223372036854775808) = -9223372036854775808:=by unfold wrap64;omega
   rw [this];unfold mx;simp
  refine ⟨((e:Int) == 1),?_,fun h0=>by omega,fun h0=>absurd rfl h0⟩
  refine Ev.congr (fun k=>if_pos (by omega)) ?_
  rw [hm]
  exact Ev.bind (gcd_neg (by omega) (by omega)) (Ev.now _)
 ·refine ⟨decide (Nat.gcd n.natAbs e = 1),?_,fun _=>rfl,fun _=>rfl⟩
  refine Ev.congr (fun k=>if_pos (by omega)) ?_
  rw [mx_abs (by omega)]
  refine Ev.bind (ev_gcd n.natAbs e) ?_
  have:(((Nat.gcd n.natAbs e:Nat):Int) == 1) = decide (Nat.gcd n.natAbs e = 1):=by
   rw [Bool.eq_iff_iff,beq_iff_eq,decide_eq_true_iff];omega
  rw [this]
  exact Ev.now _
theorem within_eq (n lo hi:Int):shares_within.f n lo hi = some (decide (lo ≤ n ∧ n ≤ hi)):=by
 unfold shares_within.f
 by_cases h:n ≥ lo
 ·rw [if_pos h]
  congr 1
  rw [Bool.eq_iff_iff,decide_eq_true_iff,decide_eq_true_iff]
  exact ⟨fun k=>⟨h,k⟩,fun k=>k.2⟩
 ·rw [if_neg h,decide_eq_false (fun k=>h k.1)]
def okW (c:Int) (w:S23):Prop:=1 ≤ w.f1 ∧ w.f1 ≤ 20 ∧ Nat.gcd w.f0.natAbs w.f1.toNat = 1 ∧ 0 ≤ w.f0 ∧ w.f0 ≤ c * w.f1
instance (c:Int) (w:S23):Decidable (okW c w):=by unfold okW;exact inferInstance
structure IsDiv (l:List Int) (E:Int) (x:List Rat):Prop where
 len:x.length = l.length
 ok:∀ i (h1:i < x.length) (h2:i < l.length),0 ≤ x[i] ∧ x[i] ≤ (l[i]:Rat) ∧ x[i].den ≤ 20
 sum:tot x = (E:Rat)
def lcm20:Nat:=232792560
theorem dvd_lcm {d:Nat} (h0:1 ≤ d) (h:d ≤ 20):d ∣ lcm20:=by
 have:∀ d:Fin 20,(d.val + 1) ∣ lcm20:=by decide
 have:=this ⟨d - 1,by omega⟩
 rwa [show d - 1 + 1 = d by omega] at this
end Go.Proofs.Ytjohcjfmlhihbaa.P
namespace Go.Proofs.Ytjohcjfmlhihbaa.G
open Go.RowKit Go.Proofs.YtjohcjfmlhihbaaW.PrintWords Go.Proofs.YtjohcjfmlhihbaaW.PrintLast Go.Proofs.YtjohcjfmlhihbaaW.PrintMore
set_option maxHeartbeats 8000000
set_option maxRecDepth 100000
attribute [local go_sem] cond_true cond_false fld23_0 fld23_1 fld45_0 fld45_1 fld109_0 fld109_1 fld94_0 fld94_1 max2_int min2_int max_two min_two max_three min_three max_four min_four   -- for this text's walks alone
def shares_areShares_1.f (k:Nat) (a4:Int) (a3:Int):Option (Bool):=(shares_within.f a3 1 20).bind fun a9=>(if a9 = true then ((shares_within.f a4 (-1000000) 1000000).bind fun a7=>(if a7 = true then ((shares_isValid.f k a4 a3).bind fun a6=>(some (!a6))) else (some true))) else (some true))
theorem shares_areShares_1.mono:∀ a0 a1 k,LeO (shares_areShares_1.f k a0 a1) (shares_areShares_1.f (k + 1) a0 a1):=by
 intro a0 a1 k
 unfold shares_areShares_1.f
 repeat' first
   | (with_reducible exact shares_isValid.mono _ _ _)
   | (with_reducible exact LeO.refl _)
   | (with_reducible exact LeO.none _)
   | (with_reducible refine LeO.ite ?_ ?_)
   | (with_reducible refine LeO.bind ?_ (fun _=>?_))
   | exact shares_isValid.mono _ _ _
   | exact LeO.none _
   | refine LeO.ite ?_ ?_
   | refine LeO.bind ?_ (fun _=>?_)
theorem shares_areShares_1.calls (k:Nat) (a4:Int) (a3:Int) (r:Bool) (w:World) (h:shares_areShares_1.f k a4 a3 = some r) :
  Calls Try.prog 111 #[.agg #[.int .i64 a4,.int .i64 a3]] w fun e w'=>e = .returned (.bool r) ∧ Below w.heap.size w w':=by
 have e0:=Try.underlying23
 have HB:=Aside0.mk (Below.refl w.heap.size w)
 have H:((shares_within.f a3 1 20).bind fun a9=>(if a9 = true then ((shares_within.f a4 (-1000000) 1000000).bind fun a7=>(if a7 = true then ((shares_isValid.f k a4 a3).bind fun a6=>(some (!a6))) else (some true))) else (some true))) = some r:=h
 clear h
 replace H:=Option.bind_eq_some_iff.mp H
 obtain ⟨a9,d5,H⟩:=H
 replace H:(if a9 = true then ((shares_within.f a4 (-1000000) 1000000).bind fun a7=>(if a7 = true then ((shares_isValid.f k a4 a3).bind fun a6=>(some (!a6))) else (some true))) else (some true)) = some r:=H
 have A2:=Aside0.mk d5
 clear d5
 by_cases c3:a9 = true
 case neg =>
  replace c3:=Bool.eq_false_iff.mpr c3
  subst c3
  have H1:(some true) = some r:=by rw [if_neg (show ¬ (false = true) by decide)] at H;exact H
  clear H
  have H:=H1
  clear H1
  obtain rfl:=Option.some.inj H
  go_enter Try.func111,Try.ntmps111
  go_wp2_with (first | ((with_reducible refine gate_dst (N:=1) rfl ?_);refine box_event ?hg (N:=1) ?hd (cs:=#[.int .i64 a4,.int .i64 a3]) (t:=23) ?hr ?_;(case hd=>rfl);(case hg=>rfl);(case hr=>first | (go_simp;done) | (go_simp;rfl));intro a5 hg d6 hbox hb;have b0:=Aside0.mk (below_step (by repeat (first | (with_reducible first | exact HB.out | apply below_alloc | apply pw_below_drewN | apply below_drew1) | exact HB.out)) hb);have b1:=Aside0.mk (hbox);have b2:=Aside0.mk ((by rw [hg];exact (below_size (by repeat (first | (with_reducible first | exact HB.out | apply below_alloc | apply pw_below_drewN | apply below_drew1) | exact HB.out))):w.heap.size ≤ a5));have b3:=Aside0.mk ((by rw [hg];exact (below_size (by repeat (first | (with_reducible first | exact HB.out | apply below_alloc | apply pw_below_drewN | apply below_drew1) | exact HB.out))):w.heap.size ≤ a5));clear HB;have HB:=b0;have a2:=b1;have b4:=b2;have a8:=b3;clear b0 b1 b2 b3;clear hb hbox hg;have b5:d6.cell? ⟨a5,0,none⟩ = some (.int .i64 a4):=(blk_cell a2.out 0).trans rfl;have b6:d6.cell? ⟨a5,1,none⟩ = some (.int .i64 a3):=(blk_cell a2.out 1).trans rfl;have b7:=blk_frozen a2.out 0;have b8:=blk_frozen a2.out 1) | ((with_reducible refine gate_callee (f:=92) rfl ?_);refine goesL_ (some 5) rfl rfl Try.func92 (by kernel_rfl) rfl #[.int .i64 a3,.int .i64 1,.int .i64 20] rfl (by (try simp only [List.map_toArray,List.map_cons,List.map_nil]);first | done | rfl | (simp only [List.length_drop,List.length_take];rfl)) ?_;(with_reducible refine (shares_within.calls a3 1 20 false _ A2.out).mono ?_);rintro e w' ⟨rfl,⟨nd,rfl⟩⟩;refine ⟨_,rfl,?_⟩))
  go_ret
  exact ⟨by first | rfl | (simp [errW_none,errW_some] <;> rfl) | (simp [*,errW_none,errW_some] <;> rfl),by repeat (first | (with_reducible first | exact HB.out | apply below_alloc | apply pw_below_drewN | apply below_drew1 | refine below_set ?_ a8.out) | exact HB.out)⟩
 subst c3
 have H1:((shares_within.f a4 (-1000000) 1000000).bind fun a7=>(if a7 = true then ((shares_isValid.f k a4 a3).bind fun a6=>(some (!a6))) else (some true))) = some r:=by rw [if_pos rfl] at H;exact H
 clear H
 have H:=H1
 clear H1
 replace H:=Option.bind_eq_some_iff.mp H
 obtain ⟨a7,d7,H⟩:=H
 replace H:(if a7 = true then ((shares_isValid.f k a4 a3).bind fun a6=>(some (!a6))) else (some true)) = some r:=H
 have A4:=Aside0.mk d7
 clear d7
 by_cases c5:a7 = true
 case neg =>
  replace c5:=Bool.eq_false_iff.mpr c5
  subst c5
  have H1:(some true) = some r:=by rw [if_neg (show ¬ (false = true) by decide)] at H;exact H
  clear H
  have H:=H1
  clear H1
  obtain rfl:=Option.some.inj H
  go_enter Try.func111,Try.ntmps111
  go_wp2_with (first | ((with_reducible refine gate_dst (N:=1) rfl ?_);refine box_event ?hg (N:=1) ?hd (cs:=#[.int .i64 a4,.int .i64 a3]) (t:=23) ?hr ?_;(case hd=>rfl);(case hg=>rfl);(case hr=>first | (go_simp;done) | (go_simp;rfl));intro a5 hg d8 hbox hb;have b0:=Aside0.mk (below_step (by repeat (first | (with_reducible first | exact HB.out | apply below_alloc | apply pw_below_drewN | apply below_drew1) | exact HB.out)) hb);have b1:=Aside0.mk (hbox);have b2:=Aside0.mk ((by rw [hg];exact (below_size (by repeat (first | (with_reducible first | exact HB.out | apply below_alloc | apply pw_below_drewN | apply below_drew1) | exact HB.out))):w.heap.size ≤ a5));have b3:=Aside0.mk ((by rw [hg];exact (below_size (by repeat (first | (with_reducible first | exact HB.out | apply below_alloc | apply pw_below_drewN | apply below_drew1) | exact HB.out))):w.heap.size ≤ a5));clear HB;have HB:=b0;have a2:=b1;have b4:=b2;have a8:=b3;clear b0 b1 b2 b3;clear hb hbox hg;have b9:d8.cell? ⟨a5,0,none⟩ = some (.int .i64 a4):=(blk_cell a2.out 0).trans rfl;have c0:d8.cell? ⟨a5,1,none⟩ = some (.int .i64 a3):=(blk_cell a2.out 1).trans rfl;have c1:=blk_frozen a2.out 0;have d0:=blk_frozen a2.out 1) | ((with_reducible refine gate_callee (f:=92) rfl ?_);refine goesL_ (some 5) rfl rfl Try.func92 (by kernel_rfl) rfl #[.int .i64 a3,.int .i64 1,.int .i64 20] rfl (by (try simp only [List.map_toArray,List.map_cons,List.map_nil]);first | done | rfl | (simp only [List.length_drop,List.length_take];rfl)) ?_;(with_reducible refine (shares_within.calls a3 1 20 true _ A2.out).mono ?_);rintro e w' ⟨rfl,⟨nd,rfl⟩⟩;refine ⟨_,rfl,?_⟩) | (go_at_call 92;(with_reducible refine (shares_within.calls a4 (-1000000) 1000000 false _ A4.out).mono ?_);rintro e w' ⟨rfl,⟨nd,rfl⟩⟩))
  go_ret
  exact ⟨by first | rfl | (simp [errW_none,errW_some] <;> rfl) | (simp [*,errW_none,errW_some] <;> rfl),by repeat (first | (with_reducible first | exact HB.out | apply below_alloc | apply pw_below_drewN | apply below_drew1 | refine below_set ?_ a8.out) | exact HB.out)⟩
 subst c5
 have H1:((shares_isValid.f k a4 a3).bind fun a6=>(some (!a6))) = some r:=by rw [if_pos rfl] at H;exact H
 clear H
 have H:=H1
 clear H1
 replace H:=Option.bind_eq_some_iff.mp H
 obtain ⟨a6,d9,H⟩:=H
 replace H:(some (!a6)) = some r:=H
 have A6:=Aside0.mk d9
 clear d9
 obtain rfl:=Option.some.inj H
 go_enter Try.func111,Try.ntmps111
 go_wp2_with (first | ((with_reducible refine gate_dst (N:=1) rfl ?_);refine box_event ?hg (N:=1) ?hd (cs:=#[.int .i64 a4,.int .i64 a3]) (t:=23) ?hr ?_;(case hd=>rfl);(case hg=>rfl);(case hr=>first | (go_simp;done) | (go_simp;rfl));intro a5 hg w7 hbox hb;have b0:=Aside0.mk (below_step (by repeat (first | (with_reducible first | exact HB.out | apply below_alloc | apply pw_below_drewN | apply below_drew1) | exact HB.out)) hb);have b1:=Aside0.mk (hbox);have b2:=Aside0.mk ((by rw [hg];exact (below_size (by repeat (first | (with_reducible first | exact HB.out | apply below_alloc | apply pw_below_drewN | apply below_drew1) | exact HB.out))):w.heap.size ≤ a5));have b3:=Aside0.mk ((by rw [hg];exact (below_size (by repeat (first | (with_reducible first | exact HB.out | apply below_alloc | apply pw_below_drewN | apply below_drew1) | exact HB.out))):w.heap.size ≤ a5));clear HB;have HB:=b0;have a2:=b1;have b4:=b2;have a8:=b3;clear b0 b1 b2 b3;clear hb hbox hg;have d1:w7.cell? ⟨a5,0,none⟩ = some (.int .i64 a4):=(blk_cell a2.out 0).trans rfl;have d2:w7.cell? ⟨a5,1,none⟩ = some (.int .i64 a3):=(blk_cell a2.out 1).trans rfl;have d3:=blk_frozen a2.out 0;have d4:=blk_frozen a2.out 1) | ((with_reducible refine gate_callee (f:=92) rfl ?_);refine goesL_ (some 5) rfl rfl Try.func92 (by kernel_rfl) rfl #[.int .i64 a3,.int .i64 1,.int .i64 20] rfl (by (try simp only [List.map_toArray,List.map_cons,List.map_nil]);first | done | rfl | (simp only [List.length_drop,List.length_take];rfl)) ?_;(with_reducible refine (shares_within.calls a3 1 20 true _ A2.out).mono ?_);rintro e w' ⟨rfl,⟨nd,rfl⟩⟩;refine ⟨_,rfl,?_⟩) | (go_at_call 92;(with_reducible refine (shares_within.calls a4 (-1000000) 1000000 true _ A4.out).mono ?_);rintro e w' ⟨rfl,⟨nd,rfl⟩⟩) | (go_at_call 112;(with_reducible refine (shares_isValid.calls k a4 a3 a6 _ A6.out).mono ?_);rintro e w9 ⟨rfl,hb⟩;have b0:=Aside0.mk (blk_below (g:=a5) (o:=.cells #[.int .i64 a4,.int .i64 a3] 23 (0,0)) (by (with_reducible repeat (first | refine blk_drewN ?_ _ | refine blk_drew ?_ | refine blk_alloc ?_ _));exact a2.out) hb);have b1:=Aside0.mk (below_step (by repeat (first | (with_reducible first | exact HB.out | apply below_alloc | apply pw_below_drewN | apply below_drew1 | refine below_set ?_ a8.out) | exact HB.out)) hb);clear a2;clear HB;have a2:=b0;have HB:=b1;clear b0 b1;(try clear hb)))
 go_ret
 exact ⟨by first | rfl | (simp [errW_none,errW_some] <;> rfl) | (simp [*,errW_none,errW_some] <;> rfl),by repeat (first | (with_reducible first | exact HB.out | apply below_alloc | apply pw_below_drewN | apply below_drew1 | refine below_set ?_ a8.out) | exact HB.out)⟩
def index111.l0:Nat → List (S23) → Int → Int → Option (Int)
 | 0,_,_,_=>none
 | k + 1,x0,x7,x8=>if x8 < x7 then (if 0 ≤ x8 then (if x8 < (x0.length:Int) then ((shares_areShares_1.f k ((rd_T23 x0 x8).f0) ((rd_T23 x0 x8).f1)).bind fun a6=>(if a6 = true then (some x8) else (index111.l0 k x0 x7 (wrap64 (x8 + 1))))) else (none)) else (none)) else (some (-1))
def index111.f (k:Nat) (l0:List (S23)):Option (Int):=index111.l0 k l0 (l0.length:Int) 0
theorem index111.mono_l:∀ k,(∀ y0 y1 y2,LeO (index111.l0 k y0 y1 y2) (index111.l0 (k + 1) y0 y1 y2))
 | 0=>fun _ _ _ r h=>by simp [index111.l0] at h
 | k + 1=>by
  have a9:=index111.mono_l k
  intro y0 y1 y2
  unfold index111.l0
  repeat' first
  | (with_reducible exact a9 _ _ _)
  | (with_reducible exact shares_areShares_1.mono _ _ _)
  | (with_reducible exact LeO.refl _)
  | (with_reducible exact LeO.none _)
  | (with_reducible refine LeO.ite ?_ ?_)
  | (with_reducible refine LeO.bind ?_ (fun _=>?_))
  | exact a9 _ _ _
  | exact shares_areShares_1.mono _ _ _
  | exact LeO.none _
  | refine LeO.ite ?_ ?_
  | refine LeO.bind ?_ (fun _=>?_)
theorem index111.mono:∀ a0 k,LeO (index111.f k a0) (index111.f (k + 1) a0):=by
 intro a0 k
 have a9:=index111.mono_l k
 unfold index111.f
 repeat' first
   | (with_reducible exact a9 _ _ _)
   | (with_reducible exact shares_areShares_1.mono _ _ _)
   | (with_reducible exact LeO.refl _)
   | (with_reducible exact LeO.none _)
   | (with_reducible refine LeO.ite ?_ ?_)
   | (with_reducible refine LeO.bind ?_ (fun _=>?_))
   | exact a9 _ _ _
   | exact shares_areShares_1.mono _ _ _
   | exact LeO.none _
   | refine LeO.ite ?_ ?_
   | refine LeO.bind ?_ (fun _=>?_)
theorem index111.calls (k:Nat) (A0:Option Addr) (c0:Nat) (l0:List (S23)) (r:Int) (w:World) (b2:Kd.C k23 w A0 l0.length l0) (b3:l0.length ≤ c0) (h:index111.f k l0 = some r) :
  Calls Try.prog 126 #[.slice A0 l0.length c0,.func (.func 111) #[] #[]] w fun e w'=>e = .returned (.int .i64 r) ∧ Below w.heap.size w w':=by
 have b7:=Try.underlying23
 have b4:=Aside0.mk b2
 have d0:=Aside0.mk b3
 clear b2 b3
 have HB:=Aside0.mk (Below.refl w.heap.size w)
 have H:(index111.l0 k l0 (l0.length:Int) 0) = some r:=h
 clear h
 have H':=Aside0.mk H
 clear H
 go_enter Try.func126,Try.ntmps126
 go_wp2
 go_loopg [8] k (fun kq v8 w'=>∃ (a1:Int),v8 = .int .i64 a1 ∧ Aside0 (index111.l0 kq l0 (l0.length:Int) a1 = some r) ∧ Aside0 (kq ≤ k) ∧ Aside0 (Below w.heap.size w w'))
 case atStart=>exact ⟨(0),(by first | rfl | (simp;done) | (simp [*];done)),H',⟨Nat.le_refl _⟩,⟨by repeat (first | (with_reducible first | exact HB.out | apply below_alloc | apply pw_below_drewN | apply below_drew1) | exact HB.out)⟩⟩
 case round =>
  clear H'
  try clear c1
  obtain ⟨a1,rfl,HA,b5,HB⟩:=hrel
  cases gk with
  | zero=>exact absurd HA.out (by simp [index111.l0])
  | succ k1 =>
   have H:=HA.out
   clear HA
   simp only [index111.l0] at H
   by_cases c2:a1 < (l0.length:Int)
   case neg =>
    rw [if_neg c2] at H
    have b1:decide (a1 < (l0.length:Int)) = false:=decide_eq_false c2
    clear c2
    obtain rfl:=Option.some.inj H
    go_wp2
    go_ret
    exact ⟨by first | rfl | (simp [errW_none,errW_some] <;> rfl) | (simp [*,errW_none,errW_some] <;> rfl),by repeat (first | (with_reducible first | exact HB.out | apply below_alloc | apply pw_below_drewN | apply below_drew1) | exact HB.out)⟩
   rw [if_pos c2] at H
   have b1:decide (a1 < (l0.length:Int)) = true:=decide_eq_true c2
   clear c2
   by_cases c3:0 ≤ a1
   case neg =>
    rw [if_neg c3] at H
    exact absurd H (by simp)
   rw [if_pos c3] at H
   have b8:decide (0 ≤ a1) = true:=decide_eq_true c3
   clear c3
   by_cases c4:a1 < (l0.length:Int)
   case neg =>
    rw [if_neg c4] at H
    exact absurd H (by simp)
   rw [if_pos c4] at H
   have b9:decide (a1 < (l0.length:Int)) = true:=decide_eq_true c4
   clear c4
   replace H:=Option.bind_eq_some_iff.mp H
   obtain ⟨a6,b6,H⟩:=H
   replace H:(if a6 = true then (some a1) else (index111.l0 k1 l0 (l0.length:Int) (wrap64 (a1 + 1)))) = some r:=H
   have A5:=Aside0.mk b6
   clear b6
   by_cases c6:a6 = true
   ·subst c6
    have H1:(some a1) = some r:=by rw [if_pos rfl] at H;exact H
    clear H
    have H:=H1
    clear H1
    obtain rfl:=Option.some.inj H
    have a4:0 ≤ (a1:Int):=of_decide_eq_true (by first | (with_reducible assumption) | assumption)
    have a5:a1 < (l0.length:Int):=of_decide_eq_true (by first | (with_reducible assumption) | assumption)
    obtain ⟨a8,a7,a2,a3⟩:=at_T23 b4.out a1 a4 a5
    cases a7
    replace a2:=(HB.out.cell (World.block_lt_of_cell? w _ a2)).trans a2
    replace a3:=(HB.out.cell (World.block_lt_of_cell? w _ a3)).trans a3
    replace a4:=eq_true a4
    replace a5:=eq_true a5
    go_wp2_with (first | (go_at_call 111;(with_reducible refine (shares_areShares_1.calls k1 ((rd_T23 l0 a1).f0) ((rd_T23 l0 a1).f1) true _ A5.out).mono ?_);rintro e w7 ⟨rfl,hb⟩;have b0:=Aside0.mk (below_step (by repeat (first | (with_reducible first | exact HB.out | apply below_alloc | apply pw_below_drewN | apply below_drew1) | exact HB.out)) hb);clear HB;have HB:=b0;clear b0;(try clear hb)))
    go_ret
    exact ⟨by first | rfl | (simp [errW_none,errW_some] <;> rfl) | (simp [*,errW_none,errW_some] <;> rfl),by repeat (first | (with_reducible first | exact HB.out | apply below_alloc | apply pw_below_drewN | apply below_drew1) | exact HB.out)⟩
   replace c6:=Bool.eq_false_iff.mpr c6
   subst c6
   have H1:(index111.l0 k1 l0 (l0.length:Int) (wrap64 (a1 + 1))) = some r:=by rw [if_neg (show ¬ (false = true) by decide)] at H;exact H
   clear H
   have H:=H1
   clear H1
   have H':=Aside0.mk H
   clear H
   have a4:0 ≤ (a1:Int):=of_decide_eq_true (by first | (with_reducible assumption) | assumption)
   have a5:a1 < (l0.length:Int):=of_decide_eq_true (by first | (with_reducible assumption) | assumption)
   obtain ⟨a8,a7,a2,a3⟩:=at_T23 b4.out a1 a4 a5
   cases a7
   replace a2:=(HB.out.cell (World.block_lt_of_cell? w _ a2)).trans a2
   replace a3:=(HB.out.cell (World.block_lt_of_cell? w _ a3)).trans a3
   replace a4:=eq_true a4
   replace a5:=eq_true a5
   go_wp2_with (first | (go_at_call 111;(with_reducible refine (shares_areShares_1.calls k1 ((rd_T23 l0 a1).f0) ((rd_T23 l0 a1).f1) false _ A5.out).mono ?_);rintro e w8 ⟨rfl,hb⟩;have b0:=Aside0.mk (below_step (by repeat (first | (with_reducible first | exact HB.out | apply below_alloc | apply pw_below_drewN | apply below_drew1) | exact HB.out)) hb);clear HB;have HB:=b0;clear b0;(try clear hb)))
   go_roundg k1
   case measure=>have:=b5.out;omega
   case rel=>exact ⟨(wrap64 (a1 + 1)),(by first | rfl | (simp;done) | (simp [*];done)),H',⟨by have:=b5.out;omega⟩,⟨by repeat (first | (with_reducible first | exact HB.out | apply below_alloc | apply pw_below_drewN | apply below_drew1) | exact HB.out)⟩⟩
def contains111.f (k:Nat) (l0:List (S23)):Option (Bool):=(index111.f k l0).bind fun a1=>(some (decide (a1 ≥ 0)))
theorem contains111.mono:∀ a0 k,LeO (contains111.f k a0) (contains111.f (k + 1) a0):=by
 intro a0 k
 unfold contains111.f
 repeat' first
   | (with_reducible exact index111.mono _ _)
   | (with_reducible exact LeO.refl _)
   | (with_reducible exact LeO.none _)
   | (with_reducible refine LeO.ite ?_ ?_)
   | (with_reducible refine LeO.bind ?_ (fun _=>?_))
   | exact index111.mono _ _
   | exact LeO.none _
   | refine LeO.ite ?_ ?_
   | refine LeO.bind ?_ (fun _=>?_)
theorem contains111.calls (k:Nat) (A0:Option Addr) (c0:Nat) (l0:List (S23)) (r:Bool) (w:World) (a2:Kd.C k23 w A0 l0.length l0) (a3:l0.length ≤ c0) (h:contains111.f k l0 = some r) :
  Calls Try.prog 110 #[.slice A0 l0.length c0,.func (.func 111) #[] #[]] w fun e w'=>e = .returned (.bool r) ∧ Below w.heap.size w w':=by
 have a6:=Aside0.mk a2
 have a7:=Aside0.mk a3
 clear a2 a3
 have HB:=Aside0.mk (Below.refl w.heap.size w)
 have H:((index111.f k l0).bind fun a1=>(some (decide (a1 ≥ 0)))) = some r:=h
 clear h
 replace H:=Option.bind_eq_some_iff.mp H
 obtain ⟨a1,a4,H⟩:=H
 replace H:(some (decide (a1 ≥ 0))) = some r:=H
 have A2:=Aside0.mk a4
 clear a4
 obtain rfl:=Option.some.inj H
 go_enter Try.func110,Try.ntmps110
 go_wp2_with (first | ((with_reducible refine gate_callee (f:=126) rfl ?_);refine goesL_ (some 7) rfl rfl Try.func126 (by kernel_rfl) rfl #[.slice A0 l0.length c0,.func (.func 111) #[] #[]] rfl (by (try simp only [List.map_toArray,List.map_cons,List.map_nil]);first | done | rfl | (simp only [List.length_drop,List.length_take];rfl)) ?_;(with_reducible refine (index111.calls k _ _ l0 a1 _ ?side1 ?side2 A2.out).mono ?_);(case side1=>repeat (first | exact a6.out | (with_reducible refine Kd.C_alloc ?_ _) | (with_reducible refine Kd.C_drewN ?_ _) | (with_reducible refine Kd.C_drew ?_)));(case side2=>exact a7.out);rintro e w3 ⟨rfl,hb⟩;refine ⟨_,rfl,?_⟩;have a5:=Aside0.mk (below_step (by repeat (first | (with_reducible first | exact HB.out | apply below_alloc | apply pw_below_drewN | apply below_drew1) | exact HB.out)) hb);clear HB;have HB:=a5;clear a5;(try clear hb)))
 go_ret
 exact ⟨by first | rfl | (simp [errW_none,errW_some] <;> rfl) | (simp [*,errW_none,errW_some] <;> rfl),by repeat (first | (with_reducible first | exact HB.out | apply below_alloc | apply pw_below_drewN | apply below_drew1) | exact HB.out)⟩
def shares_areShares.f (k:Nat) (l0:List (S23)):Option (Bool):=if (l0.length:Int) ≤ 10 then ((contains111.f k l0).bind fun a1=>(some (!a1))) else (some false)
theorem shares_areShares.mono:∀ a0 k,LeO (shares_areShares.f k a0) (shares_areShares.f (k + 1) a0):=by
 intro a0 k
 unfold shares_areShares.f
 repeat' first
   | (with_reducible exact contains111.mono _ _)
   | (with_reducible exact LeO.refl _)
   | (with_reducible exact LeO.none _)
   | (with_reducible refine LeO.ite ?_ ?_)
   | (with_reducible refine LeO.bind ?_ (fun _=>?_))
   | exact contains111.mono _ _
   | exact LeO.none _
   | refine LeO.ite ?_ ?_
   | refine LeO.bind ?_ (fun _=>?_)
theorem shares_areShares.calls (k:Nat) (A0:Option Addr) (c0:Nat) (l0:List (S23)) (r:Bool) (w:World) (a4:Kd.C k23 w A0 l0.length l0) (a5:l0.length ≤ c0) (h:shares_areShares.f k l0 = some r) :
  Calls Try.prog 82 #[.slice A0 l0.length c0] w fun e w'=>e = .returned (.bool r) ∧ Below w.heap.size w w':=by
 have a8:=Aside0.mk a4
 have a9:=Aside0.mk a5
 clear a4 a5
 have HB:=Aside0.mk (Below.refl w.heap.size w)
 have H:(if (l0.length:Int) ≤ 10 then ((contains111.f k l0).bind fun a1=>(some (!a1))) else (some false)) = some r:=h
 clear h
 by_cases c2:(l0.length:Int) ≤ 10
 case neg =>
  rw [if_neg c2] at H
  have a2:decide ((l0.length:Int) ≤ 10) = false:=decide_eq_false c2
  have a3:decide (l0.length ≤ 10) = false:=decide_eq_false (by omega)
  clear c2
  obtain rfl:=Option.some.inj H
  go_enter Try.func82,Try.ntmps82
  go_wp2
  go_ret
  exact ⟨by first | rfl | (simp [errW_none,errW_some] <;> rfl) | (simp [*,errW_none,errW_some] <;> rfl),by repeat (first | (with_reducible first | exact HB.out | apply below_alloc | apply pw_below_drewN | apply below_drew1) | exact HB.out)⟩
 rw [if_pos c2] at H
 have a2:decide ((l0.length:Int) ≤ 10) = true:=decide_eq_true c2
 have a3:decide (l0.length ≤ 10) = true:=decide_eq_true (by omega)
 clear c2
 replace H:=Option.bind_eq_some_iff.mp H
 obtain ⟨a1,a6,H⟩:=H
 replace H:(some (!a1)) = some r:=H
 have A3:=Aside0.mk a6
 clear a6
 obtain rfl:=Option.some.inj H
 go_enter Try.func82,Try.ntmps82
 go_wp2_with (first | (go_at_call 110;(with_reducible refine (contains111.calls k _ _ l0 a1 _ ?side1 ?side2 A3.out).mono ?_);(case side1=>repeat (first | exact a8.out | (with_reducible refine Kd.C_alloc ?_ _) | (with_reducible refine Kd.C_drewN ?_ _) | (with_reducible refine Kd.C_drew ?_)));(case side2=>exact a9.out);rintro e w4 ⟨rfl,hb⟩;have a7:=Aside0.mk (below_step (by repeat (first | (with_reducible first | exact HB.out | apply below_alloc | apply pw_below_drewN | apply below_drew1) | exact HB.out)) hb);clear HB;have HB:=a7;clear a7;(try clear hb)))
 go_ret
 exact ⟨by first | rfl | (simp [errW_none,errW_some] <;> rfl) | (simp [*,errW_none,errW_some] <;> rfl),by repeat (first | (with_reducible first | exact HB.out | apply below_alloc | apply pw_below_drewN | apply below_drew1) | exact HB.out)⟩
def shares_Sum.f (k:Nat) (l0:List (S23)):Option (Int × Int × Int):=(shares_areShares.f k l0).bind fun a5=>(if a5 = true then ((shares_sum.f k l0).bind fun a3=>(some (a3.1,a3.2,0))) else (some (0,0,2)))
theorem shares_Sum.mono:∀ a0 k,LeO (shares_Sum.f k a0) (shares_Sum.f (k + 1) a0):=by
 intro a0 k
 unfold shares_Sum.f
 repeat' first
   | (with_reducible exact shares_areShares.mono _ _)
   | (with_reducible exact shares_sum.mono _ _)
   | (with_reducible exact LeO.refl _)
   | (with_reducible exact LeO.none _)
   | (with_reducible refine LeO.ite ?_ ?_)
   | (with_reducible refine LeO.bind ?_ (fun _=>?_))
   | exact shares_areShares.mono _ _
   | exact shares_sum.mono _ _
   | exact LeO.none _
   | refine LeO.ite ?_ ?_
   | refine LeO.bind ?_ (fun _=>?_)
theorem shares_Sum.calls (k:Nat) (A0:Option Addr) (c0:Nat) (l0:List (S23)) (r1:Int) (r2:Int) (r3:Int) (w:World) (d2:Kd.C k23 w A0 l0.length l0) (d3:l0.length ≤ c0) (h:shares_Sum.f k l0 = some (r1,r2,r3)) :
  Calls Try.prog 48 #[.slice A0 l0.length c0] w fun e w'=>e = .returned (.tuple #[.agg #[.int .i64 r1,.int .i64 r2],.int .i64 r3]) ∧ Below w.heap.size w w':=by
 have d6:=Try.underlying23
 have b7:=Aside0.mk d2
 have b8:=Aside0.mk d3
 clear d2 d3
 have HB:=Aside0.mk (Below.refl w.heap.size w)
 have H:((shares_areShares.f k l0).bind fun a5=>(if a5 = true then ((shares_sum.f k l0).bind fun a3=>(some (a3.1,a3.2,0))) else (some (0,0,2)))) = some (r1,r2,r3):=h
 clear h
 replace H:=Option.bind_eq_some_iff.mp H
 obtain ⟨a5,d4,H⟩:=H
 replace H:(if a5 = true then ((shares_sum.f k l0).bind fun a3=>(some (a3.1,a3.2,0))) else (some (0,0,2))) = some (r1,r2,r3):=H
 have A2:=Aside0.mk d4
 clear d4
 by_cases c3:a5 = true
 case neg =>
  replace c3:=Bool.eq_false_iff.mpr c3
  subst c3
  have H1:(some (0,0,2)) = some (r1,r2,r3):=by rw [if_neg (show ¬ (false = true) by decide)] at H;exact H
  clear H
  have H:=H1
  clear H1
  simp only [Option.some.injEq,Prod.mk.injEq] at H
  obtain ⟨rfl,rfl,rfl⟩:=H
  go_enter Try.func48,Try.ntmps48
  go_wp2_with (first | ((with_reducible refine gate_dst (N:=2) rfl ?_);refine box_event ?hg (N:=2) ?hd (cs:=#[.int .i64 0,.int .i64 0]) (t:=23) ?hr ?_;(case hd=>rfl);(case hg=>rfl);(case hr=>first | (go_simp;done) | (go_simp;rfl));intro a2 hg w9 hbox hb;have a6:=Aside0.mk (below_step (by repeat (first | (with_reducible first | exact HB.out | apply below_alloc | apply pw_below_drewN | apply below_drew1) | exact HB.out)) hb);have a7:=Aside0.mk (hbox);have b1:=Aside0.mk ((by rw [hg];exact (below_size (by repeat (first | (with_reducible first | exact HB.out | apply below_alloc | apply pw_below_drewN | apply below_drew1) | exact HB.out))):w.heap.size ≤ a2));have b2:=Aside0.mk ((by rw [hg];exact (below_size (by repeat (first | (with_reducible first | exact HB.out | apply below_alloc | apply pw_below_drewN | apply below_drew1) | exact HB.out))):w.heap.size ≤ a2));clear HB;have HB:=a6;have a1:=a7;have b0:=b1;have a4:=b2;clear a6 a7 b1 b2;clear hb hbox hg) | ((with_reducible refine gate_callee (f:=82) rfl ?_);refine goesL_ (some 5) rfl rfl Try.func82 (by kernel_rfl) rfl #[.slice A0 l0.length c0] rfl (by (try simp only [List.map_toArray,List.map_cons,List.map_nil]);first | done | rfl | (simp only [List.length_drop,List.length_take];rfl)) ?_;(with_reducible refine (shares_areShares.calls k _ _ l0 false _ ?side1 ?side2 A2.out).mono ?_);(case side1=>repeat (first | exact (Kd.C_below b7.out HB.out) | (with_reducible refine Kd.C_alloc ?_ _) | (with_reducible refine Kd.C_drewN ?_ _) | (with_reducible refine Kd.C_drew ?_)));(case side2=>exact b8.out);rintro e d5 ⟨rfl,hb⟩;refine ⟨_,rfl,?_⟩;have a6:=Aside0.mk (blk_below (g:=a2) (o:=.cells #[.int .i64 0,.int .i64 0] 23 (0,0)) (by (with_reducible repeat (first | refine blk_drewN ?_ _ | refine blk_drew ?_ | refine blk_alloc ?_ _));exact a1.out) hb);have a7:=Aside0.mk (below_step (by repeat (first | (with_reducible first | exact HB.out | apply below_alloc | apply pw_below_drewN | apply below_drew1 | refine below_set ?_ a4.out) | exact HB.out)) hb);clear a1;clear HB;have a1:=a6;have HB:=a7;clear a6 a7;(try clear hb);have b3:d5.cell? ⟨a2,0,none⟩ = some (.int .i64 0):=(blk_cell a1.out 0).trans rfl;have b4:d5.cell? ⟨a2,1,none⟩ = some (.int .i64 0):=(blk_cell a1.out 1).trans rfl;have b5:=blk_frozen a1.out 0;have b6:=blk_frozen a1.out 1))
  refine bodyPost_ret (results_ct rfl _ _ a2 23 #[.int .i64 0,.int .i64 0] (0,0) _ rfl (by (with_reducible repeat (first | refine blk_drewN ?_ _ | refine blk_drew ?_ | refine blk_alloc ?_ _));refine blk_put (cs:=#[.int .i64 0,.int .i64 0]) ?_ 1 _ rfl;(with_reducible repeat (first | refine blk_drewN ?_ _ | refine blk_drew ?_ | refine blk_alloc ?_ _));refine blk_put (cs:=#[.int .i64 0,.int .i64 0]) ?_ 0 _ rfl;(with_reducible repeat (first | refine blk_drewN ?_ _ | refine blk_drew ?_ | refine blk_alloc ?_ _));exact a1.out) Try.underlying23 rfl (by kernel_rfl)) rfl ?_
  exact ⟨by first | rfl | (simp [errW_none,errW_some] <;> rfl) | (simp [*,errW_none,errW_some] <;> rfl),by repeat (first | (with_reducible first | exact HB.out | apply below_alloc | apply pw_below_drewN | apply below_drew1 | refine below_set ?_ a4.out) | exact HB.out)⟩
 subst c3
 have H1:((shares_sum.f k l0).bind fun a3=>(some (a3.1,a3.2,0))) = some (r1,r2,r3):=by rw [if_pos rfl] at H;exact H
 clear H
 have H:=H1
 clear H1
 replace H:=Option.bind_eq_some_iff.mp H
 obtain ⟨⟨a8,a9⟩,A40,H⟩:=H
 replace H:(some (a8,a9,0)) = some (r1,r2,r3):=H
 have A4:=Aside0.mk A40
 clear A40
 simp only [Option.some.injEq,Prod.mk.injEq] at H
 obtain ⟨rfl,rfl,rfl⟩:=H
 go_enter Try.func48,Try.ntmps48
 go_wp2_with (first | ((with_reducible refine gate_dst (N:=2) rfl ?_);refine box_event ?hg (N:=2) ?hd (cs:=#[.int .i64 0,.int .i64 0]) (t:=23) ?hr ?_;(case hd=>rfl);(case hg=>rfl);(case hr=>first | (go_simp;done) | (go_simp;rfl));intro a2 hg w5 hbox hb;have a6:=Aside0.mk (below_step (by repeat (first | (with_reducible first | exact HB.out | apply below_alloc | apply pw_below_drewN | apply below_drew1) | exact HB.out)) hb);have a7:=Aside0.mk (hbox);have b1:=Aside0.mk ((by rw [hg];exact (below_size (by repeat (first | (with_reducible first | exact HB.out | apply below_alloc | apply pw_below_drewN | apply below_drew1) | exact HB.out))):w.heap.size ≤ a2));have b2:=Aside0.mk ((by rw [hg];exact (below_size (by repeat (first | (with_reducible first | exact HB.out | apply below_alloc | apply pw_below_drewN | apply below_drew1) | exact HB.out))):w.heap.size ≤ a2));clear HB;have HB:=a6;have a1:=a7;have b0:=b1;have a4:=b2;clear a6 a7 b1 b2;clear hb hbox hg) | ((with_reducible refine gate_callee (f:=82) rfl ?_);refine goesL_ (some 5) rfl rfl Try.func82 (by kernel_rfl) rfl #[.slice A0 l0.length c0] rfl (by (try simp only [List.map_toArray,List.map_cons,List.map_nil]);first | done | rfl | (simp only [List.length_drop,List.length_take];rfl)) ?_;(with_reducible refine (shares_areShares.calls k _ _ l0 true _ ?side1 ?side2 A2.out).mono ?_);(case side1=>repeat (first | exact (Kd.C_below b7.out HB.out) | (with_reducible refine Kd.C_alloc ?_ _) | (with_reducible refine Kd.C_drewN ?_ _) | (with_reducible refine Kd.C_drew ?_)));(case side2=>exact b8.out);rintro e w6 ⟨rfl,hb⟩;refine ⟨_,rfl,?_⟩;have a6:=Aside0.mk (blk_below (g:=a2) (o:=.cells #[.int .i64 0,.int .i64 0] 23 (0,0)) (by (with_reducible repeat (first | refine blk_drewN ?_ _ | refine blk_drew ?_ | refine blk_alloc ?_ _));exact a1.out) hb);have a7:=Aside0.mk (below_step (by repeat (first | (with_reducible first | exact HB.out | apply below_alloc | apply pw_below_drewN | apply below_drew1 | refine below_set ?_ a4.out) | exact HB.out)) hb);clear a1;clear HB;have a1:=a6;have HB:=a7;clear a6 a7;(try clear hb)) | ((with_reducible refine gate_callee (f:=83) rfl ?_);refine goesL_ (some 9) rfl rfl Try.func83 (by kernel_rfl) rfl #[.slice A0 l0.length c0] rfl (by (try simp only [List.map_toArray,List.map_cons,List.map_nil]);first | done | rfl | (simp only [List.length_drop,List.length_take];rfl)) ?_;(with_reducible refine (shares_sum.calls k _ _ l0 a8 a9 _ ?side1 ?side2 A4.out).mono ?_);(case side1=>repeat (first | exact (Kd.C_below b7.out HB.out) | (with_reducible refine Kd.C_alloc ?_ _) | (with_reducible refine Kd.C_drewN ?_ _) | (with_reducible refine Kd.C_drew ?_)));(case side2=>exact b8.out);rintro e w7 ⟨rfl,hb⟩;refine ⟨_,rfl,?_⟩;have a6:=Aside0.mk (blk_below (g:=a2) (o:=.cells #[.int .i64 0,.int .i64 0] 23 (0,0)) (by (with_reducible repeat (first | refine blk_drewN ?_ _ | refine blk_drew ?_ | refine blk_alloc ?_ _));exact a1.out) hb);have a7:=Aside0.mk (below_step (by repeat (first | (with_reducible first | exact HB.out | apply below_alloc | apply pw_below_drewN | apply below_drew1 | refine below_set ?_ a4.out) | exact HB.out)) hb);clear a1;clear HB;have a1:=a6;have HB:=a7;clear a6 a7;(try clear hb);have b9:w7.cell? ⟨a2,0,none⟩ = some (.int .i64 0):=(blk_cell a1.out 0).trans rfl;have c1:w7.cell? ⟨a2,1,none⟩ = some (.int .i64 0):=(blk_cell a1.out 1).trans rfl;have d0:=blk_frozen a1.out 0;have d1:=blk_frozen a1.out 1))
 refine bodyPost_ret (results_ct rfl _ _ a2 23 #[.int .i64 a8,.int .i64 a9] (0,0) _ rfl (by (with_reducible repeat (first | refine blk_drewN ?_ _ | refine blk_drew ?_ | refine blk_alloc ?_ _));refine blk_put (cs:=#[.int .i64 a8,.int .i64 0]) ?_ 1 _ rfl;(with_reducible repeat (first | refine blk_drewN ?_ _ | refine blk_drew ?_ | refine blk_alloc ?_ _));refine blk_put (cs:=#[.int .i64 0,.int .i64 0]) ?_ 0 _ rfl;(with_reducible repeat (first | refine blk_drewN ?_ _ | refine blk_drew ?_ | refine blk_alloc ?_ _));exact a1.out) Try.underlying23 rfl (by kernel_rfl)) rfl ?_
 exact ⟨by first | rfl | (simp [errW_none,errW_some] <;> rfl) | (simp [*,errW_none,errW_some] <;> rfl),by repeat (first | (with_reducible first | exact HB.out | apply below_alloc | apply pw_below_drewN | apply below_drew1 | refine below_set ?_ a4.out) | exact HB.out)⟩
def shares_Sorted.l0:Nat → List (S23) → List (S23) → List Int → Int → Int → Option ((List (S23)) × Int)
 | 0,_,_,_,_,_=>none
 | k + 1,x0,x4,c1,x12,b6=>if b6 < x12 then (if 0 ≤ b6 then (if b6 < (c1.length:Int) then (if 0 ≤ (rd c1 b6) then (if (rd c1 b6) < (x0.length:Int) then (if x4.length < 8796093022208 then (shares_Sorted.l0 k x0 (x4 ++ [(⟨(rd_T23 x0 (rd c1 b6)).f0,(rd_T23 x0 (rd c1 b6)).f1⟩:S23)]) c1 x12 (wrap64 (b6 + 1))) else (none)) else (none)) else (none)) else (none)) else (none)) else (some (x4,0))
def shares_Sorted.f (k:Nat) (l0:List (S23)):Option ((List (S23)) × Int):=(shares_areShares.f k l0).bind fun a6=>(if a6 = true then ((by_compare.f k l0).bind fun a1=>(shares_Sorted.l0 k l0 ([]:List (S23)) a1 (a1.length:Int) 0)) else (some (([]:List (S23)),2)))
theorem shares_Sorted.mono_l:∀ k,(∀ y0 y1 y2 y3 y4,LeO (shares_Sorted.l0 k y0 y1 y2 y3 y4) (shares_Sorted.l0 (k + 1) y0 y1 y2 y3 y4))
 | 0=>fun _ _ _ _ _ r h=>by simp [shares_Sorted.l0] at h
 | k + 1=>by
  have d0:=shares_Sorted.mono_l k
  intro y0 y1 y2 y3 y4
  unfold shares_Sorted.l0
  repeat' first
  | (with_reducible exact d0 _ _ _ _ _)
  | (with_reducible exact by_compare.mono _ _)
  | (with_reducible exact shares_areShares.mono _ _)
  | (with_reducible exact LeO.refl _)
  | (with_reducible exact LeO.none _)
  | (with_reducible refine LeO.ite ?_ ?_)
  | (with_reducible refine LeO.bind ?_ (fun _=>?_))
  | exact d0 _ _ _ _ _
  | exact by_compare.mono _ _
  | exact shares_areShares.mono _ _
  | exact LeO.none _
  | refine LeO.ite ?_ ?_
  | refine LeO.bind ?_ (fun _=>?_)
theorem shares_Sorted.mono:∀ a0 k,LeO (shares_Sorted.f k a0) (shares_Sorted.f (k + 1) a0):=by
 intro a0 k
 have d0:=shares_Sorted.mono_l k
 unfold shares_Sorted.f
 repeat' first
   | (with_reducible exact d0 _ _ _ _ _)
   | (with_reducible exact by_compare.mono _ _)
   | (with_reducible exact shares_areShares.mono _ _)
   | (with_reducible exact LeO.refl _)
   | (with_reducible exact LeO.none _)
   | (with_reducible refine LeO.ite ?_ ?_)
   | (with_reducible refine LeO.bind ?_ (fun _=>?_))
   | exact d0 _ _ _ _ _
   | exact by_compare.mono _ _
   | exact shares_areShares.mono _ _
   | exact LeO.none _
   | refine LeO.ite ?_ ?_
   | refine LeO.bind ?_ (fun _=>?_)
theorem shares_Sorted.calls (k:Nat) (A0:Option Addr) (c0:Nat) (l0:List (S23)) (r1:List (S23)) (r2:Int) (w:World) (e5:Kd.C k23 w A0 l0.length l0) (e6:l0.length ≤ c0) (h:shares_Sorted.f k l0 = some (r1,r2)) :
  Calls Try.prog 49 #[.slice A0 l0.length c0] w fun e w'=>∃ e7:Value,e = .returned (.tuple #[e7,.int .i64 r2]) ∧ Kd.R k23 23 w' w.heap.size (fun _=>True) e7 r1 ∧ Below w.heap.size w w':=by
 have g8:=Try.underlying23
 have d6:=Aside0.mk e5
 have e0:=Aside0.mk e6
 clear e5 e6
 have HB:=Aside0.mk (Below.refl w.heap.size w)
 have H:((shares_areShares.f k l0).bind fun a6=>(if a6 = true then ((by_compare.f k l0).bind fun a1=>(shares_Sorted.l0 k l0 ([]:List (S23)) a1 (a1.length:Int) 0)) else (some (([]:List (S23)),2)))) = some (r1,r2):=h
 clear h
 replace H:=Option.bind_eq_some_iff.mp H
 obtain ⟨a6,e8,H⟩:=H
 replace H:(if a6 = true then ((by_compare.f k l0).bind fun a1=>(shares_Sorted.l0 k l0 ([]:List (S23)) a1 (a1.length:Int) 0)) else (some (([]:List (S23)),2))) = some (r1,r2):=H
 have A2:=Aside0.mk e8
 clear e8
 by_cases c3:a6 = true
 case neg =>
  replace c3:=Bool.eq_false_iff.mpr c3
  subst c3
  have H1:(some (([]:List (S23)),2)) = some (r1,r2):=by rw [if_neg (show ¬ (false = true) by decide)] at H;exact H
  clear H
  have H:=H1
  clear H1
  simp only [Option.some.injEq,Prod.mk.injEq] at H
  obtain ⟨rfl,rfl⟩:=H
  go_enter Try.func49,Try.ntmps49
  go_wp2_with (first | ((with_reducible refine gate_callee (f:=82) rfl ?_);refine goesL_ (some 8) rfl rfl Try.func82 (by kernel_rfl) rfl #[.slice A0 l0.length c0] rfl (by (try simp only [List.map_toArray,List.map_cons,List.map_nil]);first | done | rfl | (simp only [List.length_drop,List.length_take];rfl)) ?_;(with_reducible refine (shares_areShares.calls k _ _ l0 false _ ?side1 ?side2 A2.out).mono ?_);(case side1=>repeat (first | exact d6.out | (with_reducible refine Kd.C_alloc ?_ _) | (with_reducible refine Kd.C_drewN ?_ _) | (with_reducible refine Kd.C_drew ?_)));(case side2=>exact e0.out);rintro e h4 ⟨rfl,hb⟩;refine ⟨_,rfl,?_⟩;have a9:=Aside0.mk (below_step (by repeat (first | (with_reducible first | exact HB.out | apply below_alloc | apply pw_below_drewN | apply below_drew1) | exact HB.out)) hb);clear HB;have HB:=a9;clear a9;(try clear hb)))
  go_ret2
  exact ⟨_,by first | rfl | (simp [errW_none,errW_some] <;> rfl) | (simp [*,errW_none,errW_some] <;> rfl),by first | exact Kd.R_nil _ _ _ _ _ | exact Kd.N_nil _ _ _ _ _ | exact Kd.V_nil _ _ _ _ _ | exact Kd.Q_nil _ _ _ _ _ | exact Kd.S_nil _ _ _ _ _,by repeat (first | (with_reducible first | exact HB.out | apply below_alloc | apply pw_below_drewN | apply below_drew1) | exact HB.out)⟩
 subst c3
 have H1:((by_compare.f k l0).bind fun a1=>(shares_Sorted.l0 k l0 ([]:List (S23)) a1 (a1.length:Int) 0)) = some (r1,r2):=by rw [if_pos rfl] at H;exact H
 clear H
 have H:=H1
 clear H1
 replace H:=Option.bind_eq_some_iff.mp H
 obtain ⟨a1,e9,H⟩:=H
 replace H:(shares_Sorted.l0 k l0 ([]:List (S23)) a1 (a1.length:Int) 0) = some (r1,r2):=H
 have A4:=Aside0.mk e9
 clear e9
 have H':=Aside0.mk H
 clear H
 go_enter Try.func49,Try.ntmps49
 go_wp2_with (first | ((with_reducible refine gate_callee (f:=82) rfl ?_);refine goesL_ (some 8) rfl rfl Try.func82 (by kernel_rfl) rfl #[.slice A0 l0.length c0] rfl (by (try simp only [List.map_toArray,List.map_cons,List.map_nil]);first | done | rfl | (simp only [List.length_drop,List.length_take];rfl)) ?_;(with_reducible refine (shares_areShares.calls k _ _ l0 true _ ?side1 ?side2 A2.out).mono ?_);(case side1=>repeat (first | exact d6.out | (with_reducible refine Kd.C_alloc ?_ _) | (with_reducible refine Kd.C_drewN ?_ _) | (with_reducible refine Kd.C_drew ?_)));(case side2=>exact e0.out);rintro e w5 ⟨rfl,hb⟩;refine ⟨_,rfl,?_⟩;have a9:=Aside0.mk (below_step (by repeat (first | (with_reducible first | exact HB.out | apply below_alloc | apply pw_below_drewN | apply below_drew1) | exact HB.out)) hb);clear HB;have HB:=a9;clear a9;(try clear hb)) | ((with_reducible refine gate_callee (f:=84) rfl ?_);refine goesL_ (some 11) rfl rfl Try.func84 (by kernel_rfl) rfl #[.slice A0 l0.length c0,.func (.func 85) #[] #[]] rfl (by (try simp only [List.map_toArray,List.map_cons,List.map_nil]);first | done | rfl | (simp only [List.length_drop,List.length_take];rfl)) ?_;(with_reducible refine (by_compare.calls k _ _ l0 a1 _ ?side1 ?side2 A4.out).mono ?_);(case side1=>repeat (first | exact (Kd.C_below d6.out HB.out) | (with_reducible refine Kd.C_alloc ?_ _) | (with_reducible refine Kd.C_drewN ?_ _) | (with_reducible refine Kd.C_drew ?_)));(case side2=>exact e0.out);rintro e w6 ⟨g0,rfl,g1,hb⟩;refine ⟨_,rfl,?_⟩;have a9:=Aside0.mk (Kd.R_lower g1 (below_size (by repeat (first | (with_reducible first | exact HB.out | apply below_alloc | apply pw_below_drewN | apply below_drew1) | exact HB.out))));have d1:=Aside0.mk (below_step (by repeat (first | (with_reducible first | exact HB.out | apply below_alloc | apply pw_below_drewN | apply below_drew1) | exact HB.out)) hb);clear HB;have b0:=a9;have HB:=d1;clear a9 d1;(try clear hb);(try clear g1);obtain ⟨g9,h0,h1⟩:=Kd.R_slice b0.out;subst h1))
 go_loopg [4,13] k (fun kq v4 h2 w'=>∃ (a8:List (S23)) (a2:Int),h2 = .int .i64 a2 ∧ Aside0 (shares_Sorted.l0 kq l0 a8 a1 (a1.length:Int) a2 = some (r1,r2)) ∧ Aside0 (kq ≤ k) ∧ Aside0 (Kd.R k23 23 w' w.heap.size (fun _=>True) v4 a8) ∧ Aside0 (Kd.R (Kd.int .i64) 3 w' w.heap.size (fun _=>True) (.slice g9 a1.length h0) a1) ∧ Aside0 (Below w.heap.size w w'))
 case atStart=>exact ⟨(([]:List (S23))),(0),(by first | rfl | (simp;done) | (simp [*];done)),H',⟨Nat.le_refl _⟩,⟨by first | exact Kd.R_nil _ _ _ _ _ | exact Kd.N_nil _ _ _ _ _ | exact Kd.V_nil _ _ _ _ _ | exact Kd.Q_nil _ _ _ _ _ | exact Kd.S_nil _ _ _ _ _⟩,⟨by (with_reducible repeat (first | apply Kd.R_alloc | apply Kd.R_drewN | apply Kd.R_drew));exact b0.out⟩,⟨by repeat (first | (with_reducible first | exact HB.out | apply below_alloc | apply pw_below_drewN | apply below_drew1) | exact HB.out)⟩⟩
 case round =>
  clear H'
  try clear p2
  try clear c3
  try clear c4
  obtain ⟨a8,a2,rfl,HA,g2,b5,a7,HB⟩:=hrel
  cases gk with
  | zero=>exact absurd HA.out (by simp [shares_Sorted.l0])
  | succ k1 =>
   have H:=HA.out
   clear HA
   simp only [shares_Sorted.l0] at H
   by_cases c8:a2 < (a1.length:Int)
   case neg =>
    rw [if_neg c8] at H
    have e1:decide (a2 < (a1.length:Int)) = false:=decide_eq_false c8
    clear c8
    simp only [Option.some.injEq,Prod.mk.injEq] at H
    obtain ⟨rfl,rfl⟩:=H
    go_wp2
    go_ret2
    exact ⟨_,by first | rfl | (simp [errW_none,errW_some] <;> rfl) | (simp [*,errW_none,errW_some] <;> rfl),by (with_reducible repeat (first | apply Kd.R_alloc | apply Kd.R_drewN | apply Kd.R_drew));exact b5.out,by repeat (first | (with_reducible first | exact HB.out | apply below_alloc | apply pw_below_drewN | apply below_drew1) | exact HB.out)⟩
   rw [if_pos c8] at H
   have e1:decide (a2 < (a1.length:Int)) = true:=decide_eq_true c8
   clear c8
   by_cases c9:0 ≤ a2
   case neg =>
    rw [if_neg c9] at H
    exact absurd H (by simp)
   rw [if_pos c9] at H
   have h3:decide (0 ≤ a2) = true:=decide_eq_true c9
   clear c9
   by_cases c10:a2 < (a1.length:Int)
   case neg =>
    rw [if_neg c10] at H
    exact absurd H (by simp)
   rw [if_pos c10] at H
   have g3:decide (a2 < (a1.length:Int)) = true:=decide_eq_true c10
   clear c10
   by_cases d7:0 ≤ (rd a1 a2)
   case neg =>
    rw [if_neg d7] at H
    exact absurd H (by simp)
   rw [if_pos d7] at H
   have g4:decide (0 ≤ (rd a1 a2)) = true:=decide_eq_true d7
   clear d7
   by_cases d8:(rd a1 a2) < (l0.length:Int)
   case neg =>
    rw [if_neg d8] at H
    exact absurd H (by simp)
   rw [if_pos d8] at H
   have g5:decide ((rd a1 a2) < (l0.length:Int)) = true:=decide_eq_true d8
   clear d8
   by_cases d9:a8.length < 8796093022208
   case neg =>
    rw [if_neg d9] at H
    exact absurd H (by simp)
   rw [if_pos d9] at H
   have d2:=Aside0.mk d9
   clear d9
   obtain ⟨b7,a3⟩:∃ y_:List (S23),y_ = (a8 ++ [(⟨(rd_T23 l0 (rd a1 a2)).f0,(rd_T23 l0 (rd a1 a2)).f1⟩:S23)]):=⟨_,rfl⟩
   replace H:(shares_Sorted.l0 k1 l0 b7 a1 (a1.length:Int) (wrap64 (a2 + 1))) = some (r1,r2):=by first | (rw [a3];with_reducible exact H) | (have e2:=(Option.bind_some _ _).symm.trans H;rw [a3];with_reducible exact e2) | (have e2:=(Option.bind_some _ _).symm.trans H;with_reducible exact e2) | with_reducible exact H | (rw [a3];exact H) | exact H
   have b8:=Aside0.mk a3
   clear a3
   have H':=Aside0.mk H
   clear H
   have b1:0 ≤ (a2:Int):=of_decide_eq_true (by first | (with_reducible assumption) | assumption)
   have b2:a2 < (a1.length:Int):=of_decide_eq_true (by first | (with_reducible assumption) | assumption)
   obtain ⟨e3,d3,d4⟩:=Kd.at_int (Kd.R_reads' a7.out).2.2 a2 b1 b2
   cases d3
   replace b1:=eq_true b1
   replace b2:=eq_true b2
   have b3:0 ≤ ((rd a1 a2):Int):=of_decide_eq_true (by first | (with_reducible assumption) | assumption)
   have b4:(rd a1 a2) < (l0.length:Int):=of_decide_eq_true (by first | (with_reducible assumption) | assumption)
   obtain ⟨e4,d5,a4,a5⟩:=at_T23 d6.out (rd a1 a2) b3 b4
   cases d5
   replace a4:=(HB.out.cell (World.block_lt_of_cell? w _ a4)).trans a4
   replace a5:=(HB.out.cell (World.block_lt_of_cell? w _ a5)).trans a5
   replace b3:=eq_true b3
   replace b4:=eq_true b4
   go_wp2_with (first | ((with_reducible refine gate_builtin (b:=.append) (xs:=#[.tmp 17,.tmp 22]) rfl ?_);at_builtin;refine Kd.R_append k23 (w0:=w) w.heap.size rfl (.tmp 17) (.tmp 22) 35 23 (.agg #[(.int .i64 0),(.int .i64 0)]) 16 rfl Try.underlying35 info23 rfl (by decide) (by omega) u4 a8 (⟨(rd_T23 l0 (rd a1 a2)).f0,(rd_T23 l0 (rd a1 a2)).f1⟩:S23) [.int .i64 ((rd_T23 l0 (rd a1 a2)).f0),.int .i64 ((rd_T23 l0 (rd a1 a2)).f1)] (fun _=>True) (fun _=>False) rfl rfl ?aP (fun _ hk=>hk.elim) ?aF ?aO ?aB ?aS ?aL ?_;(case aP=>exact k23_mkM _ _ _ (⟨(rd_T23 l0 (rd a1 a2)).f0,(rd_T23 l0 (rd a1 a2)).f1⟩:S23));(case aB=>exact (by repeat (first | (with_reducible first | exact HB.out | apply below_alloc | apply pw_below_drewN | apply below_drew1) | exact HB.out)));(case aF=>exact (fun _ _=>trivial));(case aO=>exact (by (with_reducible repeat (first | apply Kd.R_alloc | apply Kd.R_drewN | apply Kd.R_drew));exact b5.out));(case aS=>exact (below_size (by repeat (first | (with_reducible first | exact HB.out | apply below_alloc | apply pw_below_drewN | apply below_drew1) | exact HB.out))));(case aL=>have:=d2.out;omega);intro g6 h5 ho hb hg hat;rw [← b8.out] at ho;have a9:=Aside0.mk (Kd.R_over' (by (with_reducible repeat (first | apply Kd.R_alloc | apply Kd.R_drewN | apply Kd.R_drew));exact a7.out) (Kd.R_typed (by (with_reducible repeat (first | apply Kd.R_alloc | apply Kd.R_drewN | apply Kd.R_drew));exact b5.out)) (by decide) hg);have d1:=Aside0.mk (hb);have g7:=Aside0.mk (ho);clear a7;clear HB;clear b5;have a7:=a9;have HB:=d1;have b9:=g7;clear a9 d1 g7;clear ho hb hg hat))
   go_roundg k1
   case measure=>have:=g2.out;omega
   case rel=>exact ⟨(b7),(wrap64 (a2 + 1)),(by first | rfl | (simp;done) | (simp [*];done)),H',⟨by have:=g2.out;omega⟩,⟨by (with_reducible repeat (first | apply Kd.R_alloc | apply Kd.R_drewN | apply Kd.R_drew));exact b9.out⟩,⟨by (with_reducible repeat (first | apply Kd.R_alloc | apply Kd.R_drewN | apply Kd.R_drew));exact a7.out⟩,⟨by repeat (first | (with_reducible first | exact HB.out | apply below_alloc | apply pw_below_drewN | apply below_drew1) | exact HB.out)⟩⟩
def shares_Compare.f (k:Nat) (a8:Int) (a9:Int) (b0:Int) (b1:Int):Option (Int × Int):=(shares_areShares.f k (([(⟨a8,a9⟩:S23),(⟨b0,b1⟩:S23)]:List (S23)))).bind fun b8=>(if b8 = true then ((shares_compare.f k a8 a9 b0 b1).bind fun b5=>(some (b5,0))) else (some (0,2)))
theorem shares_Compare.mono:∀ a0 a1 a2 a3 k,LeO (shares_Compare.f k a0 a1 a2 a3) (shares_Compare.f (k + 1) a0 a1 a2 a3):=by
 intro a0 a1 a2 a3 k
 unfold shares_Compare.f
 repeat' first
   | (with_reducible exact shares_areShares.mono _ _)
   | (with_reducible exact shares_compare.mono _ _ _ _ _)
   | (with_reducible exact LeO.refl _)
   | (with_reducible exact LeO.none _)
   | (with_reducible refine LeO.ite ?_ ?_)
   | (with_reducible refine LeO.bind ?_ (fun _=>?_))
   | exact shares_areShares.mono _ _
   | exact shares_compare.mono _ _ _ _ _
   | exact LeO.none _
   | refine LeO.ite ?_ ?_
   | refine LeO.bind ?_ (fun _=>?_)
theorem shares_Compare.calls (k:Nat) (a8:Int) (a9:Int) (b0:Int) (b1:Int) (r1:Int) (r2:Int) (w:World) (h:shares_Compare.f k a8 a9 b0 b1 = some (r1,r2)) :
  Calls Try.prog 51 #[.agg #[.int .i64 a8,.int .i64 a9],.agg #[.int .i64 b0,.int .i64 b1]] w fun e w'=>e = .returned (.tuple #[.int .i64 r1,.int .i64 r2]) ∧ Below w.heap.size w w':=by
 have i9:=Try.underlying23
 have HB:=Aside0.mk (Below.refl w.heap.size w)
 have H:((shares_areShares.f k (([(⟨a8,a9⟩:S23),(⟨b0,b1⟩:S23)]:List (S23)))).bind fun b8=>(if b8 = true then ((shares_compare.f k a8 a9 b0 b1).bind fun b5=>(some (b5,0))) else (some (0,2)))) = some (r1,r2):=h
 clear h
 obtain ⟨d3,d1⟩:∃ y_:List (S23),y_ = (([(⟨a8,a9⟩:S23),(⟨b0,b1⟩:S23)]:List (S23))):=⟨_,rfl⟩
 replace H:((shares_areShares.f k d3).bind fun b8=>(if b8 = true then ((shares_compare.f k a8 a9 b0 b1).bind fun b5=>(some (b5,0))) else (some (0,2)))) = some (r1,r2):=by first | (rw [d1];with_reducible exact H) | (have h4:=(Option.bind_some _ _).symm.trans H;rw [d1];with_reducible exact h4) | (have h4:=(Option.bind_some _ _).symm.trans H;with_reducible exact h4) | with_reducible exact H | (rw [d1];exact H) | exact H
 have d2:=Aside0.mk d1
 clear d1
 replace H:=Option.bind_eq_some_iff.mp H
 obtain ⟨b8,i5,H⟩:=H
 replace H:(if b8 = true then ((shares_compare.f k a8 a9 b0 b1).bind fun b5=>(some (b5,0))) else (some (0,2))) = some (r1,r2):=H
 have A3:=Aside0.mk i5
 clear i5
 by_cases c4:b8 = true
 case neg =>
  replace c4:=Bool.eq_false_iff.mpr c4
  subst c4
  have H1:(some (0,2)) = some (r1,r2):=by rw [if_neg (show ¬ (false = true) by decide)] at H;exact H
  clear H
  have H:=H1
  clear H1
  simp only [Option.some.injEq,Prod.mk.injEq] at H
  obtain ⟨rfl,rfl⟩:=H
  go_enter Try.func51,Try.ntmps51
  go_wp2_with (first | ((with_reducible refine gate_dst (N:=2) rfl ?_);refine box_event ?hg (N:=2) ?hd (cs:=#[.int .i64 a8,.int .i64 a9]) (t:=23) ?hr ?_;(case hd=>rfl);(case hg=>rfl);(case hr=>first | (go_simp;done) | (go_simp;rfl));intro a6 hg j8 hbox hb;have b9:=Aside0.mk (below_step (by repeat (first | (with_reducible first | exact HB.out | apply below_alloc | apply pw_below_drewN | apply below_drew1) | exact HB.out)) hb);have c0:=Aside0.mk (hbox);have c1:=Aside0.mk ((by rw [hg];exact (below_size (by repeat (first | (with_reducible first | exact HB.out | apply below_alloc | apply pw_below_drewN | apply below_drew1) | exact HB.out))):w.heap.size ≤ a6));have d0:=Aside0.mk ((by rw [hg];exact (below_size (by repeat (first | (with_reducible first | exact HB.out | apply below_alloc | apply pw_below_drewN | apply below_drew1) | exact HB.out))):w.heap.size ≤ a6));clear HB;have HB:=b9;have a4:=c0;have d6:=c1;have b2:=d0;clear b9 c0 c1 d0;clear hb hbox hg) | ((with_reducible refine gate_dst (N:=3) rfl ?_);refine box_event ?hg (N:=3) ?hd (cs:=#[.int .i64 b0,.int .i64 b1]) (t:=23) ?hr ?_;(case hd=>rfl);(case hg=>rfl);(case hr=>first | (go_simp;done) | (go_simp;rfl));intro a7 hg e2 hbox hb;have b9:=Aside0.mk (blk_below (g:=a6) (o:=.cells #[.int .i64 a8,.int .i64 a9] 23 (0,0)) (by (with_reducible repeat (first | refine blk_drewN ?_ _ | refine blk_drew ?_ | refine blk_alloc ?_ _));exact a4.out) hb);have c0:=Aside0.mk (below_step (by repeat (first | (with_reducible first | exact HB.out | apply below_alloc | apply pw_below_drewN | apply below_drew1 | refine below_set ?_ b2.out) | exact HB.out)) hb);have c1:=Aside0.mk (hbox);have d0:=Aside0.mk ((by rw [hg];exact (below_size (by repeat (first | (with_reducible first | exact HB.out | apply below_alloc | apply pw_below_drewN | apply below_drew1 | refine below_set ?_ b2.out) | exact HB.out))):w.heap.size ≤ a7));have d8:=Aside0.mk ((by rw [hg];exact (below_size (by repeat (first | (with_reducible first | exact HB.out | apply below_alloc | apply pw_below_drewN | apply below_drew1 | refine below_set ?_ b2.out) | exact HB.out))):w.heap.size ≤ a7));have d9:=Aside0.mk ((by rw [hg];exact Nat.ne_of_lt (blk_lt (g:=a6) (o:=.cells #[.int .i64 a8,.int .i64 a9] 23 (0,0)) (by (with_reducible repeat (first | refine blk_drewN ?_ _ | refine blk_drew ?_ | refine blk_alloc ?_ _));exact a4.out)):a6 ≠ a7));have e0:=Aside0.mk ((by rw [hg];exact Nat.ne_of_gt (blk_lt (g:=a6) (o:=.cells #[.int .i64 a8,.int .i64 a9] 23 (0,0)) (by (with_reducible repeat (first | refine blk_drewN ?_ _ | refine blk_drew ?_ | refine blk_alloc ?_ _));exact a4.out)):a7 ≠ a6));clear a4;clear HB;have a4:=b9;have HB:=c0;have a5:=c1;have d7:=d0;have b4:=d8;have b6:=d9;have b7:=e0;clear b9 c0 c1 d0 d8 d9 e0;clear hb hbox hg;have i6:=b6.out;have i7:=b7.out;have e3:e2.cell? ⟨a6,0,none⟩ = some (.int .i64 a8):=(blk_cell a4.out 0).trans rfl;have e4:e2.cell? ⟨a6,1,none⟩ = some (.int .i64 a9):=(blk_cell a4.out 1).trans rfl;have e5:=blk_frozen a4.out 0;have e6:=blk_frozen a4.out 1;have e7:e2.cell? ⟨a7,0,none⟩ = some (.int .i64 b0):=(blk_cell a5.out 0).trans rfl;have e8:e2.cell? ⟨a7,1,none⟩ = some (.int .i64 b1):=(blk_cell a5.out 1).trans rfl;have e9:=blk_frozen a5.out 0;have g0:=blk_frozen a5.out 1) | ((with_reducible refine gate_dst (N:=8) rfl ?_);refine Kd.R_lit k23 _ 23 ?hg (N:=8) ?hd (xs:=([(⟨a8,a9⟩:S23),(⟨b0,b1⟩:S23)]:List (S23))) (inner:=[.int .i64 a8,.int .i64 a9,.int .i64 b0,.int .i64 b1]) (ok:=fun _=>True) (okp:=fun _=>True) ?hr ?hp (fun _ hk=>hk) trivial (Below.refl _ _) (Nat.le_refl _) (by simp) ?_;(case hd=>rfl);(case hg=>rfl);(case hr=>first | (go_simp;done) | (go_simp;rfl));(case hp=>exact (Reps.c2 (show Kd.M k23 _ _ _ (⟨a8,a9⟩:S23) [.int .i64 a8,.int .i64 a9] from (k23_mkM _ _ _ (⟨a8,a9⟩:S23) )) (Reps.c2 (show Kd.M k23 _ _ _ (⟨b0,b1⟩:S23) [.int .i64 b0,.int .i64 b1] from (k23_mkM _ _ _ (⟨b0,b1⟩:S23) )) (Reps.none _ _))));intro e1 j9 d4 hb hg_ hnew_;clear hg_ hnew_;(first | rw [← d2.out] at d4 | (simp only [Int.reduceToNat] at d4;rw [← d2.out] at d4));have b9:=Aside0.mk (Kd.R_lower (Kd.R_newB (Kd.R_newB d4 (g:=a6) (o:=.cells #[.int .i64 a8,.int .i64 a9] 23 (0,0)) (by (with_reducible repeat (first | refine blk_drewN ?_ _ | refine blk_drew ?_ | refine blk_alloc ?_ _));exact a4.out)) (g:=a7) (o:=.cells #[.int .i64 b0,.int .i64 b1] 23 (0,0)) (by (with_reducible repeat (first | refine blk_drewN ?_ _ | refine blk_drew ?_ | refine blk_alloc ?_ _));exact a5.out)) (below_size (by repeat (first | (with_reducible first | exact HB.out | apply below_alloc | apply pw_below_drewN | apply below_drew1 | refine below_set ?_ b2.out | refine below_set ?_ b4.out) | exact HB.out))));have c0:=Aside0.mk (blk_below (g:=a6) (o:=.cells #[.int .i64 a8,.int .i64 a9] 23 (0,0)) (by (with_reducible repeat (first | refine blk_drewN ?_ _ | refine blk_drew ?_ | refine blk_alloc ?_ _));exact a4.out) hb);have c1:=Aside0.mk (blk_below (g:=a7) (o:=.cells #[.int .i64 b0,.int .i64 b1] 23 (0,0)) (by (with_reducible repeat (first | refine blk_drewN ?_ _ | refine blk_drew ?_ | refine blk_alloc ?_ _));exact a5.out) hb);have d0:=Aside0.mk (below_step (by repeat (first | (with_reducible first | exact HB.out | apply below_alloc | apply pw_below_drewN | apply below_drew1 | refine below_set ?_ b2.out | refine below_set ?_ b4.out) | exact HB.out)) hb);clear a4;clear a5;clear HB;have b3:=b9;have a4:=c0;have a5:=c1;have HB:=d0;clear b9 c0 c1 d0;clear hb d4;obtain ⟨h5,h6,h7⟩:=Kd.R_slice b3.out;subst h7) | ((with_reducible refine gate_callee (f:=82) rfl ?_);refine goesL_ (some 9) rfl rfl Try.func82 (by kernel_rfl) rfl #[.slice h5 d3.length h6] rfl (by (try simp only [List.map_toArray,List.map_cons,List.map_nil]);first | done | rfl | (simp only [List.length_drop,List.length_take];rfl)) ?_;(with_reducible refine (shares_areShares.calls k _ _ d3 false _ ?side1 ?side2 A3.out).mono ?_);(case side1=>repeat (first | exact (Kd.R_reads' b3.out).2.2 | (with_reducible refine Kd.C_alloc ?_ _) | (with_reducible refine Kd.C_drewN ?_ _) | (with_reducible refine Kd.C_drew ?_)));(case side2=>exact (Kd.R_reads' b3.out).2.1);rintro e l5 ⟨rfl,hb⟩;refine ⟨_,rfl,?_⟩;have b9:=Aside0.mk (Kd.R_below (by (with_reducible repeat (first | apply Kd.R_alloc | apply Kd.R_drewN | apply Kd.R_drew));exact b3.out) hb);have c0:=Aside0.mk (blk_below (g:=a6) (o:=.cells #[.int .i64 a8,.int .i64 a9] 23 (0,0)) (by (with_reducible repeat (first | refine blk_drewN ?_ _ | refine blk_drew ?_ | refine blk_alloc ?_ _));exact a4.out) hb);have c1:=Aside0.mk (blk_below (g:=a7) (o:=.cells #[.int .i64 b0,.int .i64 b1] 23 (0,0)) (by (with_reducible repeat (first | refine blk_drewN ?_ _ | refine blk_drew ?_ | refine blk_alloc ?_ _));exact a5.out) hb);have d0:=Aside0.mk (below_step (by repeat (first | (with_reducible first | exact HB.out | apply below_alloc | apply pw_below_drewN | apply below_drew1 | refine below_set ?_ b2.out | refine below_set ?_ b4.out) | exact HB.out)) hb);clear b3;clear a4;clear a5;clear HB;have b3:=b9;have a4:=c0;have a5:=c1;have HB:=d0;clear b9 c0 c1 d0;(try clear hb)))
  go_ret2
  exact ⟨by first | rfl | (simp [errW_none,errW_some] <;> rfl) | (simp [*,errW_none,errW_some] <;> rfl),by repeat (first | (with_reducible first | exact HB.out | apply below_alloc | apply pw_below_drewN | apply below_drew1 | refine below_set ?_ b2.out | refine below_set ?_ b4.out) | exact HB.out)⟩
 subst c4
 have H1:((shares_compare.f k a8 a9 b0 b1).bind fun b5=>(some (b5,0))) = some (r1,r2):=by rw [if_pos rfl] at H;exact H
 clear H
 have H:=H1
 clear H1
 replace H:=Option.bind_eq_some_iff.mp H
 obtain ⟨b5,i8,H⟩:=H
 replace H:(some (b5,0)) = some (r1,r2):=H
 have A5:=Aside0.mk i8
 clear i8
 simp only [Option.some.injEq,Prod.mk.injEq] at H
 obtain ⟨rfl,rfl⟩:=H
 go_enter Try.func51,Try.ntmps51
 go_wp2_with (first | ((with_reducible refine gate_dst (N:=2) rfl ?_);refine box_event ?hg (N:=2) ?hd (cs:=#[.int .i64 a8,.int .i64 a9]) (t:=23) ?hr ?_;(case hd=>rfl);(case hg=>rfl);(case hr=>first | (go_simp;done) | (go_simp;rfl));intro a6 hg w6 hbox hb;have b9:=Aside0.mk (below_step (by repeat (first | (with_reducible first | exact HB.out | apply below_alloc | apply pw_below_drewN | apply below_drew1) | exact HB.out)) hb);have c0:=Aside0.mk (hbox);have c1:=Aside0.mk ((by rw [hg];exact (below_size (by repeat (first | (with_reducible first | exact HB.out | apply below_alloc | apply pw_below_drewN | apply below_drew1) | exact HB.out))):w.heap.size ≤ a6));have d0:=Aside0.mk ((by rw [hg];exact (below_size (by repeat (first | (with_reducible first | exact HB.out | apply below_alloc | apply pw_below_drewN | apply below_drew1) | exact HB.out))):w.heap.size ≤ a6));clear HB;have HB:=b9;have a4:=c0;have d6:=c1;have b2:=d0;clear b9 c0 c1 d0;clear hb hbox hg) | ((with_reducible refine gate_dst (N:=3) rfl ?_);refine box_event ?hg (N:=3) ?hd (cs:=#[.int .i64 b0,.int .i64 b1]) (t:=23) ?hr ?_;(case hd=>rfl);(case hg=>rfl);(case hr=>first | (go_simp;done) | (go_simp;rfl));intro a7 hg w7 hbox hb;have b9:=Aside0.mk (blk_below (g:=a6) (o:=.cells #[.int .i64 a8,.int .i64 a9] 23 (0,0)) (by (with_reducible repeat (first | refine blk_drewN ?_ _ | refine blk_drew ?_ | refine blk_alloc ?_ _));exact a4.out) hb);have c0:=Aside0.mk (below_step (by repeat (first | (with_reducible first | exact HB.out | apply below_alloc | apply pw_below_drewN | apply below_drew1 | refine below_set ?_ b2.out) | exact HB.out)) hb);have c1:=Aside0.mk (hbox);have d0:=Aside0.mk ((by rw [hg];exact (below_size (by repeat (first | (with_reducible first | exact HB.out | apply below_alloc | apply pw_below_drewN | apply below_drew1 | refine below_set ?_ b2.out) | exact HB.out))):w.heap.size ≤ a7));have d8:=Aside0.mk ((by rw [hg];exact (below_size (by repeat (first | (with_reducible first | exact HB.out | apply below_alloc | apply pw_below_drewN | apply below_drew1 | refine below_set ?_ b2.out) | exact HB.out))):w.heap.size ≤ a7));have d9:=Aside0.mk ((by rw [hg];exact Nat.ne_of_lt (blk_lt (g:=a6) (o:=.cells #[.int .i64 a8,.int .i64 a9] 23 (0,0)) (by (with_reducible repeat (first | refine blk_drewN ?_ _ | refine blk_drew ?_ | refine blk_alloc ?_ _));exact a4.out)):a6 ≠ a7));have e0:=Aside0.mk ((by rw [hg];exact Nat.ne_of_gt (blk_lt (g:=a6) (o:=.cells #[.int .i64 a8,.int .i64 a9] 23 (0,0)) (by (with_reducible repeat (first | refine blk_drewN ?_ _ | refine blk_drew ?_ | refine blk_alloc ?_ _));exact a4.out)):a7 ≠ a6));clear a4;clear HB;have a4:=b9;have HB:=c0;have a5:=c1;have d7:=d0;have b4:=d8;have b6:=d9;have b7:=e0;clear b9 c0 c1 d0 d8 d9 e0;clear hb hbox hg;have j5:=b6.out;have j7:=b7.out;have h8:w7.cell? ⟨a6,0,none⟩ = some (.int .i64 a8):=(blk_cell a4.out 0).trans rfl;have h9:w7.cell? ⟨a6,1,none⟩ = some (.int .i64 a9):=(blk_cell a4.out 1).trans rfl;have i0:=blk_frozen a4.out 0;have i1:=blk_frozen a4.out 1;have g1:w7.cell? ⟨a7,0,none⟩ = some (.int .i64 b0):=(blk_cell a5.out 0).trans rfl;have g2:w7.cell? ⟨a7,1,none⟩ = some (.int .i64 b1):=(blk_cell a5.out 1).trans rfl;have g3:=blk_frozen a5.out 0;have g4:=blk_frozen a5.out 1) | ((with_reducible refine gate_dst (N:=8) rfl ?_);refine Kd.R_lit k23 _ 23 ?hg (N:=8) ?hd (xs:=([(⟨a8,a9⟩:S23),(⟨b0,b1⟩:S23)]:List (S23))) (inner:=[.int .i64 a8,.int .i64 a9,.int .i64 b0,.int .i64 b1]) (ok:=fun _=>True) (okp:=fun _=>True) ?hr ?hp (fun _ hk=>hk) trivial (Below.refl _ _) (Nat.le_refl _) (by simp) ?_;(case hd=>rfl);(case hg=>rfl);(case hr=>first | (go_simp;done) | (go_simp;rfl));(case hp=>exact (Reps.c2 (show Kd.M k23 _ _ _ (⟨a8,a9⟩:S23) [.int .i64 a8,.int .i64 a9] from (k23_mkM _ _ _ (⟨a8,a9⟩:S23) )) (Reps.c2 (show Kd.M k23 _ _ _ (⟨b0,b1⟩:S23) [.int .i64 b0,.int .i64 b1] from (k23_mkM _ _ _ (⟨b0,b1⟩:S23) )) (Reps.none _ _))));intro e1 l6 d5 hb hg_ hnew_;clear hg_ hnew_;(first | rw [← d2.out] at d5 | (simp only [Int.reduceToNat] at d5;rw [← d2.out] at d5));have b9:=Aside0.mk (Kd.R_lower (Kd.R_newB (Kd.R_newB d5 (g:=a6) (o:=.cells #[.int .i64 a8,.int .i64 a9] 23 (0,0)) (by (with_reducible repeat (first | refine blk_drewN ?_ _ | refine blk_drew ?_ | refine blk_alloc ?_ _));exact a4.out)) (g:=a7) (o:=.cells #[.int .i64 b0,.int .i64 b1] 23 (0,0)) (by (with_reducible repeat (first | refine blk_drewN ?_ _ | refine blk_drew ?_ | refine blk_alloc ?_ _));exact a5.out)) (below_size (by repeat (first | (with_reducible first | exact HB.out | apply below_alloc | apply pw_below_drewN | apply below_drew1 | refine below_set ?_ b2.out | refine below_set ?_ b4.out) | exact HB.out))));have c0:=Aside0.mk (blk_below (g:=a6) (o:=.cells #[.int .i64 a8,.int .i64 a9] 23 (0,0)) (by (with_reducible repeat (first | refine blk_drewN ?_ _ | refine blk_drew ?_ | refine blk_alloc ?_ _));exact a4.out) hb);have c1:=Aside0.mk (blk_below (g:=a7) (o:=.cells #[.int .i64 b0,.int .i64 b1] 23 (0,0)) (by (with_reducible repeat (first | refine blk_drewN ?_ _ | refine blk_drew ?_ | refine blk_alloc ?_ _));exact a5.out) hb);have d0:=Aside0.mk (below_step (by repeat (first | (with_reducible first | exact HB.out | apply below_alloc | apply pw_below_drewN | apply below_drew1 | refine below_set ?_ b2.out | refine below_set ?_ b4.out) | exact HB.out)) hb);clear a4;clear a5;clear HB;have b3:=b9;have a4:=c0;have a5:=c1;have HB:=d0;clear b9 c0 c1 d0;clear hb d5;obtain ⟨i2,i3,i4⟩:=Kd.R_slice b3.out;subst i4) | ((with_reducible refine gate_callee (f:=82) rfl ?_);refine goesL_ (some 9) rfl rfl Try.func82 (by kernel_rfl) rfl #[.slice i2 d3.length i3] rfl (by (try simp only [List.map_toArray,List.map_cons,List.map_nil]);first | done | rfl | (simp only [List.length_drop,List.length_take];rfl)) ?_;(with_reducible refine (shares_areShares.calls k _ _ d3 true _ ?side1 ?side2 A3.out).mono ?_);(case side1=>repeat (first | exact (Kd.R_reads' b3.out).2.2 | (with_reducible refine Kd.C_alloc ?_ _) | (with_reducible refine Kd.C_drewN ?_ _) | (with_reducible refine Kd.C_drew ?_)));(case side2=>exact (Kd.R_reads' b3.out).2.1);rintro e g5 ⟨rfl,hb⟩;refine ⟨_,rfl,?_⟩;have b9:=Aside0.mk (Kd.R_below (by (with_reducible repeat (first | apply Kd.R_alloc | apply Kd.R_drewN | apply Kd.R_drew));exact b3.out) hb);have c0:=Aside0.mk (blk_below (g:=a6) (o:=.cells #[.int .i64 a8,.int .i64 a9] 23 (0,0)) (by (with_reducible repeat (first | refine blk_drewN ?_ _ | refine blk_drew ?_ | refine blk_alloc ?_ _));exact a4.out) hb);have c1:=Aside0.mk (blk_below (g:=a7) (o:=.cells #[.int .i64 b0,.int .i64 b1] 23 (0,0)) (by (with_reducible repeat (first | refine blk_drewN ?_ _ | refine blk_drew ?_ | refine blk_alloc ?_ _));exact a5.out) hb);have d0:=Aside0.mk (below_step (by repeat (first | (with_reducible first | exact HB.out | apply below_alloc | apply pw_below_drewN | apply below_drew1 | refine below_set ?_ b2.out | refine below_set ?_ b4.out) | exact HB.out)) hb);clear b3;clear a4;clear a5;clear HB;have b3:=b9;have a4:=c0;have a5:=c1;have HB:=d0;clear b9 c0 c1 d0;(try clear hb);have g6:g5.cell? ⟨a6,0,none⟩ = some (.int .i64 a8):=(blk_cell a4.out 0).trans rfl;have g7:g5.cell? ⟨a6,1,none⟩ = some (.int .i64 a9):=(blk_cell a4.out 1).trans rfl;have g8:=blk_frozen a4.out 0;have g9:=blk_frozen a4.out 1;have h0:g5.cell? ⟨a7,0,none⟩ = some (.int .i64 b0):=(blk_cell a5.out 0).trans rfl;have h1:g5.cell? ⟨a7,1,none⟩ = some (.int .i64 b1):=(blk_cell a5.out 1).trans rfl;have h2:=blk_frozen a5.out 0;have h3:=blk_frozen a5.out 1) | ((with_reducible refine gate_callee (f:=85) rfl ?_);refine goesL_ (some 13) rfl rfl Try.func85 (by kernel_rfl) rfl #[.agg #[.int .i64 a8,.int .i64 a9],.agg #[.int .i64 b0,.int .i64 b1]] rfl (by (try simp only [List.map_toArray,List.map_cons,List.map_nil]);first | done | rfl | (simp only [List.length_drop,List.length_take];rfl)) ?_;(with_reducible refine (shares_compare.calls k a8 a9 b0 b1 b5 _ A5.out).mono ?_);rintro e l7 ⟨rfl,hb⟩;refine ⟨_,rfl,?_⟩;have b9:=Aside0.mk (Kd.R_below (by (with_reducible repeat (first | apply Kd.R_alloc | apply Kd.R_drewN | apply Kd.R_drew));exact b3.out) hb);have c0:=Aside0.mk (blk_below (g:=a6) (o:=.cells #[.int .i64 a8,.int .i64 a9] 23 (0,0)) (by (with_reducible repeat (first | refine blk_drewN ?_ _ | refine blk_drew ?_ | refine blk_alloc ?_ _));exact a4.out) hb);have c1:=Aside0.mk (blk_below (g:=a7) (o:=.cells #[.int .i64 b0,.int .i64 b1] 23 (0,0)) (by (with_reducible repeat (first | refine blk_drewN ?_ _ | refine blk_drew ?_ | refine blk_alloc ?_ _));exact a5.out) hb);have d0:=Aside0.mk (below_step (by repeat (first | (with_reducible first | exact HB.out | apply below_alloc | apply pw_below_drewN | apply below_drew1 | refine below_set ?_ b2.out | refine below_set ?_ b4.out) | exact HB.out)) hb);clear b3;clear a4;clear a5;clear HB;have b3:=b9;have a4:=c0;have a5:=c1;have HB:=d0;clear b9 c0 c1 d0;(try clear hb)))
 go_ret2
 exact ⟨by first | rfl | (simp [errW_none,errW_some] <;> rfl) | (simp [*,errW_none,errW_some] <;> rfl),by repeat (first | (with_reducible first | exact HB.out | apply below_alloc | apply pw_below_drewN | apply below_drew1 | refine below_set ?_ b2.out | refine below_set ?_ b4.out) | exact HB.out)⟩
end Go.Proofs.Ytjohcjfmlhihbaa.G
set_option linter.unusedSectionVars false
namespace Go.Proofs.Ytjohcjfmlhihbaa.P
open Go Go.RowKit Go.Proofs.Ytjohcjfmlhihbaa.G
open Go.Proofs.YtjohcjfmlhihbaaW.PrintWords Go.Proofs.YtjohcjfmlhihbaaW.PrintMore
def smallS (a:S23):Prop:=1 ≤ a.f1 ∧ a.f1 ≤ 20 ∧ -1000000 ≤ a.f0 ∧ a.f0 ≤ 1000000 ∧ Nat.gcd a.f0.natAbs a.f1.toNat = 1
instance (a:S23):Decidable (smallS a):=by unfold smallS;exact inferInstance
theorem q_small {q:Rat} (h:Sm 1000000 20 q):smallS (encQ q):=by
 have h1:=h.num
 have h2:=h.den
 have hp:=den_pos q
 refine ⟨?_,?_,?_,?_,gcd_one q⟩
 ·show 1 ≤ (q.den:Int);omega
 ·show (q.den:Int) ≤ 20;omega
 ·show -1000000 ≤ q.num;omega
 ·show q.num ≤ 1000000;omega
theorem list_small {x:List Rat} (h:∀ q ∈ x,Sm 1000000 20 q):∀ a ∈ encL x,smallS a:=fun a ha=>by
 obtain ⟨q,hq,rfl⟩:=List.mem_map.1 ha
 exact q_small (h q hq)
theorem ev_sh1 {a:S23} (ha:inS a):Ev (fun k=>shares_areShares_1.f k a.f0 a.f1) (!decide (smallS a)):=by
 unfold shares_areShares_1.f
 simp only [within_eq,Option.bind_some]
 by_cases h1:1 ≤ a.f1 ∧ a.f1 ≤ 20
 ·refine Ev.congr (fun k=>if_pos (decide_eq_true h1)) ?_
  by_cases h2:-1000000 ≤ a.f0 ∧ a.f0 ≤ 1000000
  ·refine Ev.congr (fun k=>if_pos (decide_eq_true h2)) ?_
   obtain ⟨b,hb,_,hb2⟩:=ev_valid ha.1 h1.1
   refine Ev.bind hb ?_
   rw [hb2 (by omega)]
   have:(decide (Nat.gcd a.f0.natAbs a.f1.toNat = 1)) = decide (smallS a):=by
    rw [Bool.eq_iff_iff,decide_eq_true_iff,decide_eq_true_iff]
    exact ⟨fun k=>⟨h1.1,h1.2,h2.1,h2.2,k⟩,fun k=>k.2.2.2.2⟩
   rw [this]
   exact Ev.now _
  ·rw [decide_eq_false (fun k:smallS a=>h2 ⟨k.2.2.1,k.2.2.2.1⟩)]
   exact Ev.congr (fun k=>if_neg (by simpa using h2)) (Ev.now _)
 ·rw [decide_eq_false (fun k:smallS a=>h1 ⟨k.1,k.2.1⟩)]
  exact Ev.congr (fun k=>if_neg (by simpa using h1)) (Ev.now _)
theorem index_l0 {w:List S23} (hl:w.length ≤ 1000000) (hin:∀ a ∈ w,inS a):∀ (d i:Nat),i + d = w.length → (∀ a ∈ w.take i,smallS a) → ∃ r:Int,((0 ≤ r) ↔ ¬ ∀ a ∈ w,smallS a) ∧ Ev (fun k=>index111.l0 k w (w.length:Int) (i:Int)) r:=by
 intro d
 induction d with
 | zero =>
  intro i hi hok
  rw [List.take_of_length_le (by omega)] at hok
  refine ⟨-1,⟨fun e=>by omega,fun e=>absurd hok e⟩,Ev.step (f:=fun _=>some (-1)) (fun k=>?_) (Ev.now _)⟩
  rw [index111.l0,if_neg (by omega)]
 | succ d ih =>
  intro i hi hok
  have hil:i < w.length:=by omega
  have h1:=ev_sh1 (hin _ (List.getElem_mem hil))
  have start:∀ k,index111.l0 (k + 1) w (w.length:Int) (i:Int) = (shares_areShares_1.f k w[i].f0 w[i].f1).bind fun t=>if t = true then some (i:Int) else index111.l0 k w (w.length:Int) ((i + 1:Nat):Int):=by
   intro k
   rw [index111.l0,if_pos (by omega),if_pos (by omega),if_pos (by omega),rdT hil,wrap_succ (by omega)]
  by_cases hs:smallS w[i]
  ·obtain ⟨r,hr,hev⟩:=ih (i + 1) (by omega) (fun a ha=>by
    rw [List.take_succ_eq_append_getElem hil,List.mem_append,List.mem_singleton] at ha
    rcases ha with ha | rfl
    ·exact hok a ha
    ·exact hs)
   refine ⟨r,hr,Ev.step start (Ev.bind h1 ?_)⟩
   rw [decide_eq_true hs]
   simp only [Bool.not_true,Bool.false_eq_true,if_false]
   exact hev
  ·refine ⟨(i:Int),⟨fun _ hall=>hs (hall _ (List.getElem_mem hil)),fun _=>by omega⟩,Ev.step start (Ev.bind h1 ?_)⟩
   rw [decide_eq_false hs]
   simp only [Bool.not_false,if_true]
   exact Ev.now _
theorem ev_areShares {w:List S23} (hl:w.length ≤ 1000000) (hin:∀ a ∈ w,inS a):Ev (fun k=>shares_areShares.f k w) (decide (w.length ≤ 10 ∧ ∀ a ∈ w,smallS a)):=by
 unfold shares_areShares.f
 by_cases h:w.length ≤ 10
 ·refine Ev.congr (fun k=>if_pos (by omega)) ?_
  obtain ⟨r,hr,hev⟩:=index_l0 hl hin w.length 0 (by omega) (fun a ha=>by simp at ha)
  unfold contains111.f index111.f
  refine Ev.bind (Ev.bind hev (Ev.now _)) ?_
  have:(!decide (r ≥ 0)) = decide (w.length ≤ 10 ∧ ∀ a ∈ w,smallS a):=by
   rw [Bool.eq_iff_iff,Bool.not_eq_true',decide_eq_false_iff_not,decide_eq_true_iff]
   constructor
   ·intro hn;exact ⟨h,Classical.byContradiction fun hc=>hn (hr.2 hc)⟩
   ·intro hn hc;exact hr.1 hc hn.2
  rw [this]
  exact Ev.now _
 ·rw [decide_eq_false (fun k=>h k.1)]
  exact Ev.congr (fun k=>if_neg (by omega)) (Ev.now _)
theorem abs_of {q:Rat} {A:Nat} (h:q.num.natAbs ≤ A):-(A:Rat) ≤ q ∧ q ≤ (A:Rat):=by
 have hp:=den_pos q
 have h2:A ≤ A * q.den:=Nat.le_mul_of_pos_right _ hp
 have e:((A * q.den:Nat):Int) = (A:Int) * (q.den:Int):=by push_cast;rfl
 constructor
 ·rw [Rat.le_iff]
  simp only [Rat.neg_num,Rat.num_natCast,Rat.neg_den,Rat.den_natCast]
  rw [Int.neg_mul]
  omega
 ·rw [Rat.le_iff]
  simp only [Rat.num_natCast,Rat.den_natCast]
  omega
theorem part_smZ {x:List Rat} (hl:x.length ≤ 11) (hx:∀ q ∈ x,Sm 1000000 20 q):Sm 2560718160000000 232792560 (tot x):=by
 have hd:(tot x).den ≤ lcm20:=Nat.le_of_dvd (by decide) (tot_den (by decide) fun q hq=>dvd_lcm (den_pos q) (hx q hq).den)
 have a1:=tot_le (f:=fun c=>c) (g:=fun _=>((1000000:Nat):Rat)) (l:=x) (fun c hc=>(abs_of (hx c hc).num).2)
 have a2:=tot_le (f:=fun _=>-((1000000:Nat):Rat)) (g:=fun c=>c) (l:=x) (fun c hc=>(abs_of (hx c hc).num).1)
 rw [List.map_id',tot_const] at a1 a2
 have a3:((x.length * 1000000:Nat):Rat) ≤ ((11000000:Nat):Rat):=Rat.natCast_le_natCast.2 (by omega)
 push_cast at a1 a2 a3
 have b1:tot x ≤ ((11000000:Nat):Rat):=by push_cast;grind
 have b2:-((11000000:Nat):Rat) ≤ tot x:=by push_cast;grind
 have:=num_bound b2 b1
 have h3:11000000 * (tot x).den ≤ 11000000 * lcm20:=Nat.mul_le_mul_left _ hd
 exact ⟨Nat.le_trans this (Nat.le_trans h3 (by decide)),hd⟩
theorem sumZ_l0 {x:List Rat} (hl:x.length ≤ 11) (hx:∀ q ∈ x,Sm 1000000 20 q):∀ (d i:Nat),i + d = x.length → Ev (fun k=>shares_sum.l0 k (encL x) (x.length:Int) (i:Int) (tot (x.take i)).num ((tot (x.take i)).den:Int)) ((tot x).num,((tot x).den:Int)):=by
 intro d
 induction d with
 | zero =>
  intro i hi
  refine Ev.step (f:=fun _=>some ((tot x).num,((tot x).den:Int))) (fun k=>?_) (Ev.now _)
  rw [shares_sum.l0,if_neg (by omega),List.take_of_length_le (by omega)]
 | succ d ih =>
  intro i hi
  have hil:i < x.length:=by omega
  have s1:=part_smZ (x:=x.take i) (by rw [List.length_take];omega) (fun q hq=>hx q (List.mem_of_mem_take hq))
  have s2:=hx _ (List.getElem_mem hil)
  have e:tot (x.take i) + x[i] = tot (x.take (i + 1)):=by rw [List.take_succ_eq_append_getElem hil,tot_append,tot_cons,tot_nil];grind
  have e1:=ev_add (s1.fits s2 (by decide) (by decide))
  rw [e] at e1
  obtain ⟨K1,e1⟩:=e1
  obtain ⟨K2,e2⟩:=ih (i + 1) (by omega)
  refine ⟨K1 + K2 + 1,fun k hk=>?_⟩
  obtain ⟨m,rfl⟩:∃ m,k = m + 1:=⟨k - 1,by omega⟩
  have f1:=e1 m (by omega)
  have f2:=e2 m (by omega)
  show shares_sum.l0 (m + 1) _ _ _ _ _ = _
  rw [shares_sum.l0,encL_length,if_pos (by omega),if_pos (by omega),if_pos (by omega),rdE hil]
  simp only [encQ,f1,Option.bind_some]
  rw [wrap_succ (by omega)]
  exact f2
section
variable {x:List Rat} (hl:x.length ≤ 10) (hx:∀ q ∈ x,Sm 1000000 20 q)
include hl hx
theorem shares_yes:Ev (fun k=>shares_areShares.f k (encL x)) true:=by
 have:=ev_areShares (w:=encL x) (by rw [encL_length];omega) (fun a ha=>by
  obtain ⟨q,hq,rfl⟩:=List.mem_map.1 ha
  have s1:=(hx q hq).num
  have s2:=(hx q hq).den
  exact ⟨⟨by show _ ≤ q.num;omega,by show q.num ≤ _;omega⟩,⟨by show _ ≤ (q.den:Int);omega,by show (q.den:Int) ≤ _;omega⟩⟩)
 rw [decide_eq_true (⟨by rw [encL_length];exact hl,list_small hx⟩:_ ∧ _)] at this
 exact this
theorem ev_Sum:Ev (fun k=>shares_Sum.f k (encL x)) ((tot x).num,((tot x).den:Int),0):=by
 unfold shares_Sum.f
 refine Ev.bind (shares_yes hl hx) ?_
 simp only [if_true]
 unfold shares_sum.f
 simp only [shares_whole.f,Option.bind_some,encL_length]
 exact Ev.bind (sumZ_l0 (by omega) hx x.length 0 (by omega)) (Ev.now _)
theorem sorted_l0 (τ:List Nat) (hτ:∀ p ∈ τ,p < x.length) (hτl:τ.length = x.length):∀ (d i:Nat),i + d = τ.length → Ev (fun k=>shares_Sorted.l0 k (encL x) (encL ((τ.take i).map fun p=>x.getD p 0)) (nI τ) (τ.length:Int) (i:Int)) (encL (τ.map fun p=>x.getD p 0),0):=by
 intro d
 induction d with
 | zero =>
  intro i hi
  refine Ev.step (f:=fun _=>some (encL (τ.map fun p=>x.getD p 0),0)) (fun k=>?_) (Ev.now _)
  rw [shares_Sorted.l0,if_neg (by omega),List.take_of_length_le (by omega)]
 | succ d ih =>
  intro i hi
  have hil:i < τ.length:=by omega
  have hp:=hτ _ (List.getElem_mem hil)
  have hlen:(encL ((τ.take i).map fun p=>x.getD p 0)).length ≤ 10:=by rw [encL_length,List.length_map,List.length_take];omega
  refine Ev.step (fun k=>?_) (ih (i + 1) (by omega))
  rw [shares_Sorted.l0,nI_length,encL_length,if_pos (by omega),if_pos (by omega),if_pos (by omega),rdN hil,if_pos (by omega),if_pos (by omega),rdE hp,if_pos (by omega),wrap_succ (by omega)]
  congr 1
  rw [List.take_succ_eq_append_getElem hil,List.map_append]
  unfold encL
  rw [List.map_append]
  simp [hp,encQ]
theorem ev_Sorted:∃ y,y.Perm x ∧ y.Pairwise (· ≤ ·) ∧ Ev (fun k=>shares_Sorted.f k (encL x)) (encL y,0):=by
 obtain ⟨τ,hp,hs,hb⟩:=ev_by (q:=x) (fun a ha b hb=>(hx a ha).fits (hx b hb) (by decide) (by decide)) (by omega)
 have hlt:∀ p ∈ τ,p < x.length:=fun p hpm=>List.mem_range.1 (hp.mem_iff.1 hpm)
 have hτl:τ.length = x.length:=by rw [hp.length_eq,List.length_range]
 have hmap:(List.range x.length).map (fun i=>x.getD i 0) = x:=by
  refine List.ext_getElem (by simp) fun i hi1 hi2=>?_
  rw [List.getElem_map,List.getElem_range]
  simp [hi2]
 have hpm:(τ.map fun i=>x.getD i 0).Perm x:=by
  have:=hp.map (fun i=>x.getD i 0)
  rw [hmap] at this
  exact this
 refine ⟨_,hpm,hs,?_⟩
 unfold shares_Sorted.f
 refine Ev.bind (shares_yes hl hx) ?_
 simp only [if_true]
 refine Ev.bind hb ?_
 rw [nI_length]
 exact sorted_l0 hl hx τ hlt hτl τ.length 0 (by omega)
end
theorem ev_Compare {p q:Rat} (hp:Sm 1000000 20 p) (hq:Sm 1000000 20 q):Ev (fun k=>shares_Compare.f k p.num (p.den:Int) q.num (q.den:Int)) (cmpR p q,0):=by
 unfold shares_Compare.f
 have hy:=shares_yes (x:=[p,q]) (by simp) (fun z hz=>by
  rcases List.mem_cons.1 hz with rfl | hz
  ·exact hp
  ·rw [List.mem_singleton.1 hz];exact hq)
 have hy':Ev (fun k=>shares_areShares.f k [⟨p.num,(p.den:Int)⟩,⟨q.num,(q.den:Int)⟩]) true:=hy
 refine Ev.bind hy' ?_
 simp only [if_true]
 exact Ev.bind (ev_compare (hp.fits hq (by decide) (by decide))) (Ev.now _)
theorem cmpR_neg (p q:Rat):cmpR p q = -cmpR q p:=by
 unfold cmpR
 by_cases h1:p < q
 ·have h2:¬ q < p:=by grind
  rw [if_pos h1,if_neg h2,if_pos h1]
 ·by_cases h2:q < p
  ·rw [if_neg h1,if_pos h2,if_pos h2];rfl
  ·rw [if_neg h1,if_neg h2,if_neg h2,if_neg h1];rfl
end Go.Proofs.Ytjohcjfmlhihbaa.P
namespace Go.Proofs.Ytjohcjfmlhihbaa.G
open Go.RowKit Go.Proofs.YtjohcjfmlhihbaaW.PrintWords Go.Proofs.YtjohcjfmlhihbaaW.PrintLast Go.Proofs.YtjohcjfmlhihbaaW.PrintMore
set_option maxHeartbeats 8000000
set_option maxRecDepth 100000
attribute [local go_sem] cond_true cond_false fld23_0 fld23_1 fld45_0 fld45_1 fld109_0 fld109_1 fld94_0 fld94_1 max2_int min2_int max_two min_two max_three min_three max_four min_four   -- for this text's walks alone
attribute [local go_sem high] eqA23
mutual
def numnahlaw07_SharesSums.l0:Nat → List Int → List (S23) → Int → Option (Bool)
 | 0,_,_,_=>none
 | k + 1,x0,x3,x5=>if (wrap64 (x5 + 1)) < (x0.length:Int) then (numnahlaw07_SharesSums.j1 k x0 x3 ([]:List (S23)) x5 (decide ((x3.length:Int) < 5))) else (numnahlaw07_SharesSums.j1 k x0 x3 ([]:List (S23)) x5 false)
def numnahlaw07_SharesSums.j1:Nat → List Int → List (S23) → List (S23) → Int → Bool → Option (Bool)
 | 0,_,_,_,_,_=>none
 | k + 1,x0,x3,x4,x5,x35=>if x35 = true then (if 0 ≤ x5 then (if x5 < (x0.length:Int) then ((numnahlaw07_mod.f (rd x0 x5) 2001).bind fun h0=>(if 0 ≤ (wrap64 (x5 + 1)) then (if (wrap64 (x5 + 1)) < (x0.length:Int) then ((numnahlaw07_mod.f (rd x0 (wrap64 (x5 + 1))) 20).bind fun g4=>((numnahref07_Reduced.f k (wrap64 (h0 - 1000)) (wrap64 (1 + g4))).bind fun e0=>(if x3.length < 8796093022208 then (numnahlaw07_SharesSums.l0 k x0 (x3 ++ [(⟨e0.1,e0.2⟩:S23)]) (wrap64 (x5 + 2))) else (none)))) else (none)) else (none))) else (none)) else (none)) else (numnahlaw07_SharesSums.l1 k x3 x4 (wrap64 ((x3.length:Int) - 1)))
def numnahlaw07_SharesSums.l1:Nat → List (S23) → List (S23) → Int → Option (Bool)
 | 0,_,_,_=>none
 | k + 1,x3,x4,x6=>if x6 ≥ 0 then (if 0 ≤ x6 then (if x6 < (x3.length:Int) then (if x4.length < 8796093022208 then (numnahlaw07_SharesSums.l1 k x3 (x4 ++ [(⟨(rd_T23 x3 x6).f0,(rd_T23 x3 x6).f1⟩:S23)]) (wrap64 (x6 - 1))) else (none)) else (none)) else (none)) else ((numnahlaw07_fracs.f x3).bind fun m0=>(numnahlaw07_SharesSums.l2 k x3 x4 m0 0))
def numnahlaw07_SharesSums.l2:Nat → List (S23) → List (S23) → List (S23) → Int → Option (Bool)
 | 0,_,_,_,_=>none
 | k + 1,x3,x4,x7,x8=>if x8 < (x3.length:Int) then (if 0 ≤ x8 then (if x7.length < 8796093022208 then (numnahlaw07_SharesSums.l2 k x3 x4 (x7 ++ [(⟨wrap64 (-((rd_T23 x3 x8).f0)),(rd_T23 x3 x8).f1⟩:S23)]) (wrap64 (x8 + 1))) else (none)) else (none)) else ((shares_Sum.f k x3).bind fun o8=>((shares_Sum.f k x4).bind fun h3=>((shares_Sum.f k x7).bind fun e8=>((shares_Sorted.f k x3).bind fun a7=>((shares_Sorted.f k a7.1).bind fun e1=>(if o8.2.2 = 0 then (if h3.2.2 = 0 then (if e8.2.2 = 0 then (if a7.2 = 0 then (if e1.2 = 0 then (if (!(o8.1 == h3.1) || (!(o8.2.1 == h3.2.1))) = true then (numnahlaw07_SharesSums.j4 k x3 a7.1 true) else ((numnahref07_Whole.f 0).bind fun d3=>(if (!(e8.1 == d3.1) || (!(e8.2.1 == d3.2))) = true then (numnahlaw07_SharesSums.j4 k x3 a7.1 true) else ((numnahref07_Same.f k a7.1 e1.1).bind fun e7=>(if e7 = true then (numnahlaw07_SharesSums.j4 k x3 a7.1 ((a7.1.length:Int) != (x3.length:Int))) else (numnahlaw07_SharesSums.j4 k x3 a7.1 true)))))) else (numnahlaw07_SharesSums.j4 k x3 a7.1 true)) else (numnahlaw07_SharesSums.j4 k x3 a7.1 true)) else (numnahlaw07_SharesSums.j4 k x3 a7.1 true)) else (numnahlaw07_SharesSums.j4 k x3 a7.1 true)) else (numnahlaw07_SharesSums.j4 k x3 a7.1 true)))))))
def numnahlaw07_SharesSums.j4:Nat → List (S23) → List (S23) → Bool → Option (Bool)
 | 0,_,_,_=>none
 | k + 1,x3,t8,x157=>if x157 = true then (some false) else (numnahlaw07_SharesSums.l3 k x3 t8 1)
def numnahlaw07_SharesSums.l3:Nat → List (S23) → List (S23) → Int → Option (Bool)
 | 0,_,_,_=>none
 | k + 1,x3,t8,l8=>if l8 < (x3.length:Int) then (if 0 ≤ (wrap64 (l8 - 1)) then (if (wrap64 (l8 - 1)) < (x3.length:Int) then (if 0 ≤ l8 then ((shares_Compare.f k ((rd_T23 x3 (wrap64 (l8 - 1))).f0) ((rd_T23 x3 (wrap64 (l8 - 1))).f1) ((rd_T23 x3 l8).f0) ((rd_T23 x3 l8).f1)).bind fun i4=>((shares_Compare.f k ((rd_T23 x3 l8).f0) ((rd_T23 x3 l8).f1) ((rd_T23 x3 (wrap64 (l8 - 1))).f0) ((rd_T23 x3 (wrap64 (l8 - 1))).f1)).bind fun g6=>(if (wrap64 (l8 - 1)) < (t8.length:Int) then (if l8 < (t8.length:Int) then ((shares_Compare.f k ((rd_T23 t8 (wrap64 (l8 - 1))).f0) ((rd_T23 t8 (wrap64 (l8 - 1))).f1) ((rd_T23 t8 l8).f0) ((rd_T23 t8 l8).f1)).bind fun e9=>(if i4.2 = 0 then (if g6.2 = 0 then (if e9.2 = 0 then (if i4.1 = (wrap64 (-g6.1)) then (if e9.1 > 0 then (some false) else (numnahlaw07_SharesSums.l3 k x3 t8 (wrap64 (l8 + 1)))) else (some false)) else (some false)) else (some false)) else (some false))) else (none)) else (none)))) else (none)) else (none)) else (none)) else ((numnahlaw07_awake.f k).bind fun q5=>(some q5))
end
def numnahlaw07_SharesSums.f (k:Nat) (l0:List Int):Option (Bool):=numnahlaw07_SharesSums.l0 k l0 ([]:List (S23)) 0
theorem numnahlaw07_SharesSums.mono_l:∀ k,(∀ y0 y1 y2,LeO (numnahlaw07_SharesSums.l0 k y0 y1 y2) (numnahlaw07_SharesSums.l0 (k + 1) y0 y1 y2)) ∧ (∀ y0 y1 y2 y3 y4,LeO (numnahlaw07_SharesSums.j1 k y0 y1 y2 y3 y4) (numnahlaw07_SharesSums.j1 (k + 1) y0 y1 y2 y3 y4)) ∧ (∀ y0 y1 y2,LeO (numnahlaw07_SharesSums.l1 k y0 y1 y2) (numnahlaw07_SharesSums.l1 (k + 1) y0 y1 y2)) ∧ (∀ y0 y1 y2 y3,LeO (numnahlaw07_SharesSums.l2 k y0 y1 y2 y3) (numnahlaw07_SharesSums.l2 (k + 1) y0 y1 y2 y3)) ∧ (∀ y0 y1 y2,LeO (numnahlaw07_SharesSums.j4 k y0 y1 y2) (numnahlaw07_SharesSums.j4 (k + 1) y0 y1 y2)) ∧ (∀ y0 y1 y2,LeO (numnahlaw07_SharesSums.l3 k y0 y1 y2) (numnahlaw07_SharesSums.l3 (k + 1) y0 y1 y2))
 | 0=>⟨fun _ _ _ r h=>by simp [numnahlaw07_SharesSums.l0] at h,fun _ _ _ _ _ r h=>by simp [numnahlaw07_SharesSums.j1] at h,fun _ _ _ r h=>by simp [numnahlaw07_SharesSums.l1] at h,fun _ _ _ _ r h=>by simp [numnahlaw07_SharesSums.l2] at h,fun _ _ _ r h=>by simp [numnahlaw07_SharesSums.j4] at h,fun _ _ _ r h=>by simp [numnahlaw07_SharesSums.l3] at h⟩
 | k + 1=>by
  obtain ⟨o9,p0,p3,p4,p5,p7⟩:=numnahlaw07_SharesSums.mono_l k
  refine ⟨?_,?_,?_,?_,?_,?_⟩
  ·intro y0 y1 y2
   unfold numnahlaw07_SharesSums.l0
   repeat' first
   | (with_reducible exact o9 _ _ _)
   | (with_reducible exact p0 _ _ _ _ _)
   | (with_reducible exact p3 _ _ _)
   | (with_reducible exact p4 _ _ _ _)
   | (with_reducible exact p5 _ _ _)
   | (with_reducible exact p7 _ _ _)
   | (with_reducible exact numnahlaw07_awake.mono _)
   | (with_reducible exact numnahref07_Reduced.mono _ _ _)
   | (with_reducible exact numnahref07_Same.mono _ _ _)
   | (with_reducible exact shares_Compare.mono _ _ _ _ _)
   | (with_reducible exact shares_Sorted.mono _ _)
   | (with_reducible exact shares_Sum.mono _ _)
   | (with_reducible exact LeO.refl _)
   | (with_reducible exact LeO.none _)
   | (with_reducible refine LeO.ite ?_ ?_)
   | (with_reducible refine LeO.bind ?_ (fun _=>?_))
   | exact o9 _ _ _
   | exact p0 _ _ _ _ _
   | exact p3 _ _ _
   | exact p4 _ _ _ _
   | exact p5 _ _ _
   | exact p7 _ _ _
   | exact numnahlaw07_awake.mono _
   | exact numnahref07_Reduced.mono _ _ _
   | exact numnahref07_Same.mono _ _ _
   | exact shares_Compare.mono _ _ _ _ _
   | exact shares_Sorted.mono _ _
   | exact shares_Sum.mono _ _
   | exact LeO.none _
   | refine LeO.ite ?_ ?_
   | refine LeO.bind ?_ (fun _=>?_)
  ·intro y0 y1 y2 y3 y4
   unfold numnahlaw07_SharesSums.j1
   repeat' first
   | (with_reducible exact o9 _ _ _)
   | (with_reducible exact p0 _ _ _ _ _)
   | (with_reducible exact p3 _ _ _)
   | (with_reducible exact p4 _ _ _ _)
   | (with_reducible exact p5 _ _ _)
   | (with_reducible exact p7 _ _ _)
   | (with_reducible exact numnahlaw07_awake.mono _)
   | (with_reducible exact numnahref07_Reduced.mono _ _ _)
   | (with_reducible exact numnahref07_Same.mono _ _ _)
   | (with_reducible exact shares_Compare.mono _ _ _ _ _)
   | (with_reducible exact shares_Sorted.mono _ _)
   | (with_reducible exact shares_Sum.mono _ _)
   | (with_reducible exact LeO.refl _)
   | (with_reducible exact LeO.none _)
   | (with_reducible refine LeO.ite ?_ ?_)
   | (with_reducible refine LeO.bind ?_ (fun _=>?_))
   | exact o9 _ _ _
   | exact p0 _ _ _ _ _
   | exact p3 _ _ _
   | exact p4 _ _ _ _
   | exact p5 _ _ _
   | exact p7 _ _ _
   | exact numnahlaw07_awake.mono _
   | exact numnahref07_Reduced.mono _ _ _
   | exact numnahref07_Same.mono _ _ _
   | exact shares_Compare.mono _ _ _ _ _
   | exact shares_Sorted.mono _ _
   | exact shares_Sum.mono _ _
   | exact LeO.none _
   | refine LeO.ite ?_ ?_
   | refine LeO.bind ?_ (fun _=>?_)
  ·intro y0 y1 y2
   unfold numnahlaw07_SharesSums.l1
   repeat' first
   | (with_reducible exact o9 _ _ _)
   | (with_reducible exact p0 _ _ _ _ _)
   | (with_reducible exact p3 _ _ _)
   | (with_reducible exact p4 _ _ _ _)
   | (with_reducible exact p5 _ _ _)
   | (with_reducible exact p7 _ _ _)
   | (with_reducible exact numnahlaw07_awake.mono _)
   | (with_reducible exact numnahref07_Reduced.mono _ _ _)
   | (with_reducible exact numnahref07_Same.mono _ _ _)
   | (with_reducible exact shares_Compare.mono _ _ _ _ _)
   | (with_reducible exact shares_Sorted.mono _ _)
   | (with_reducible exact shares_Sum.mono _ _)
   | (with_reducible exact LeO.refl _)
   | (with_reducible exact LeO.none _)
   | (with_reducible refine LeO.ite ?_ ?_)
   | (with_reducible refine LeO.bind ?_ (fun _=>?_))
   | exact o9 _ _ _
   | exact p0 _ _ _ _ _
   | exact p3 _ _ _
   | exact p4 _ _ _ _
   | exact p5 _ _ _
   | exact p7 _ _ _
   | exact numnahlaw07_awake.mono _
   | exact numnahref07_Reduced.mono _ _ _
   | exact numnahref07_Same.mono _ _ _
   | exact shares_Compare.mono _ _ _ _ _
   | exact shares_Sorted.mono _ _
   | exact shares_Sum.mono _ _
   | exact LeO.none _
   | refine LeO.ite ?_ ?_
   | refine LeO.bind ?_ (fun _=>?_)
  ·intro y0 y1 y2 y3
   unfold numnahlaw07_SharesSums.l2
   repeat' first
   | (with_reducible exact o9 _ _ _)
   | (with_reducible exact p0 _ _ _ _ _)
   | (with_reducible exact p3 _ _ _)
   | (with_reducible exact p4 _ _ _ _)
   | (with_reducible exact p5 _ _ _)
   | (with_reducible exact p7 _ _ _)
   | (with_reducible exact numnahlaw07_awake.mono _)
   | (with_reducible exact numnahref07_Reduced.mono _ _ _)
   | (with_reducible exact numnahref07_Same.mono _ _ _)
   | (with_reducible exact shares_Compare.mono _ _ _ _ _)
   | (with_reducible exact shares_Sorted.mono _ _)
   | (with_reducible exact shares_Sum.mono _ _)
   | (with_reducible exact LeO.refl _)
   | (with_reducible exact LeO.none _)
   | (with_reducible refine LeO.ite ?_ ?_)
   | (with_reducible refine LeO.bind ?_ (fun _=>?_))
   | exact o9 _ _ _
   | exact p0 _ _ _ _ _
   | exact p3 _ _ _
   | exact p4 _ _ _ _
   | exact p5 _ _ _
   | exact p7 _ _ _
   | exact numnahlaw07_awake.mono _
   | exact numnahref07_Reduced.mono _ _ _
   | exact numnahref07_Same.mono _ _ _
   | exact shares_Compare.mono _ _ _ _ _
   | exact shares_Sorted.mono _ _
   | exact shares_Sum.mono _ _
   | exact LeO.none _
   | refine LeO.ite ?_ ?_
   | refine LeO.bind ?_ (fun _=>?_)
  ·intro y0 y1 y2
   unfold numnahlaw07_SharesSums.j4
   repeat' first
   | (with_reducible exact o9 _ _ _)
   | (with_reducible exact p0 _ _ _ _ _)
   | (with_reducible exact p3 _ _ _)
   | (with_reducible exact p4 _ _ _ _)
   | (with_reducible exact p5 _ _ _)
   | (with_reducible exact p7 _ _ _)
   | (with_reducible exact numnahlaw07_awake.mono _)
   | (with_reducible exact numnahref07_Reduced.mono _ _ _)
   | (with_reducible exact numnahref07_Same.mono _ _ _)
   | (with_reducible exact shares_Compare.mono _ _ _ _ _)
   | (with_reducible exact shares_Sorted.mono _ _)
   | (with_reducible exact shares_Sum.mono _ _)
   | (with_reducible exact LeO.refl _)
   | (with_reducible exact LeO.none _)
   | (with_reducible refine LeO.ite ?_ ?_)
   | (with_reducible refine LeO.bind ?_ (fun _=>?_))
   | exact o9 _ _ _
   | exact p0 _ _ _ _ _
   | exact p3 _ _ _
   | exact p4 _ _ _ _
   | exact p5 _ _ _
   | exact p7 _ _ _
   | exact numnahlaw07_awake.mono _
   | exact numnahref07_Reduced.mono _ _ _
   | exact numnahref07_Same.mono _ _ _
   | exact shares_Compare.mono _ _ _ _ _
   | exact shares_Sorted.mono _ _
   | exact shares_Sum.mono _ _
   | exact LeO.none _
   | refine LeO.ite ?_ ?_
   | refine LeO.bind ?_ (fun _=>?_)
  intro y0 y1 y2
  unfold numnahlaw07_SharesSums.l3
  repeat' first
  | (with_reducible exact o9 _ _ _)
  | (with_reducible exact p0 _ _ _ _ _)
  | (with_reducible exact p3 _ _ _)
  | (with_reducible exact p4 _ _ _ _)
  | (with_reducible exact p5 _ _ _)
  | (with_reducible exact p7 _ _ _)
  | (with_reducible exact numnahlaw07_awake.mono _)
  | (with_reducible exact numnahref07_Reduced.mono _ _ _)
  | (with_reducible exact numnahref07_Same.mono _ _ _)
  | (with_reducible exact shares_Compare.mono _ _ _ _ _)
  | (with_reducible exact shares_Sorted.mono _ _)
  | (with_reducible exact shares_Sum.mono _ _)
  | (with_reducible exact LeO.refl _)
  | (with_reducible exact LeO.none _)
  | (with_reducible refine LeO.ite ?_ ?_)
  | (with_reducible refine LeO.bind ?_ (fun _=>?_))
  | exact o9 _ _ _
  | exact p0 _ _ _ _ _
  | exact p3 _ _ _
  | exact p4 _ _ _ _
  | exact p5 _ _ _
  | exact p7 _ _ _
  | exact numnahlaw07_awake.mono _
  | exact numnahref07_Reduced.mono _ _ _
  | exact numnahref07_Same.mono _ _ _
  | exact shares_Compare.mono _ _ _ _ _
  | exact shares_Sorted.mono _ _
  | exact shares_Sum.mono _ _
  | exact LeO.none _
  | refine LeO.ite ?_ ?_
  | refine LeO.bind ?_ (fun _=>?_)
theorem numnahlaw07_SharesSums.mono:∀ a0 k,LeO (numnahlaw07_SharesSums.f k a0) (numnahlaw07_SharesSums.f (k + 1) a0):=by
 intro a0 k
 obtain ⟨o9,p0,p3,p4,p5,p7⟩:=numnahlaw07_SharesSums.mono_l k
 unfold numnahlaw07_SharesSums.f
 repeat' first
   | (with_reducible exact o9 _ _ _)
   | (with_reducible exact p0 _ _ _ _ _)
   | (with_reducible exact p3 _ _ _)
   | (with_reducible exact p4 _ _ _ _)
   | (with_reducible exact p5 _ _ _)
   | (with_reducible exact p7 _ _ _)
   | (with_reducible exact numnahlaw07_awake.mono _)
   | (with_reducible exact numnahref07_Reduced.mono _ _ _)
   | (with_reducible exact numnahref07_Same.mono _ _ _)
   | (with_reducible exact shares_Compare.mono _ _ _ _ _)
   | (with_reducible exact shares_Sorted.mono _ _)
   | (with_reducible exact shares_Sum.mono _ _)
   | (with_reducible exact LeO.refl _)
   | (with_reducible exact LeO.none _)
   | (with_reducible refine LeO.ite ?_ ?_)
   | (with_reducible refine LeO.bind ?_ (fun _=>?_))
   | exact o9 _ _ _
   | exact p0 _ _ _ _ _
   | exact p3 _ _ _
   | exact p4 _ _ _ _
   | exact p5 _ _ _
   | exact p7 _ _ _
   | exact numnahlaw07_awake.mono _
   | exact numnahref07_Reduced.mono _ _ _
   | exact numnahref07_Same.mono _ _ _
   | exact shares_Compare.mono _ _ _ _ _
   | exact shares_Sorted.mono _ _
   | exact shares_Sum.mono _ _
   | exact LeO.none _
   | refine LeO.ite ?_ ?_
   | refine LeO.bind ?_ (fun _=>?_)
def numnahlaw07_SharesSums.T5:Bool × List (List Nat × List Nat):=(true,[([],[]),([],[]),([],[]),([1,2],[1,2]),([3],[3]),([4],[4]),([5],[5]),([],[]),([],[]),([8],[8]),([7,9],[7,9]),([10],[10]),([11,5],[11]),([12],[12]),([6,13,12],[6,13]),([14],[14]),([0,15,14],[0,15]),([16,16,0,1,2,3,4,5,6,7,8,9,10,11,12,13,14,15,16],[0,16])])
def numnahlaw07_SharesSums.B5:List Nat:=[0,0,0,6,14,30,62,0,0,256,896,1920,4030,8126,16382,32766,65535,131071]
theorem numnahlaw07_SharesSums.tab5:rtab .any (opsOf Try.f14 5) = numnahlaw07_SharesSums.T5:=by kernel_rfl
theorem numnahlaw07_SharesSums.bits5:waitsOk numnahlaw07_SharesSums.T5.2 numnahlaw07_SharesSums.B5 = true:=by kernel_rfl
def numnahlaw07_SharesSums.T14:Bool × List (List Nat × List Nat):=(true,[([],[]),([],[]),([],[]),([1,2],[1,2]),([3],[3]),([4],[4]),([5],[5]),([],[]),([],[]),([7,8],[7,8]),([9],[9]),([10],[10]),([6,11],[6,11]),([12],[12]),([0,13],[0,13]),([14,14,0,1,2,3,4,5,6,7,8,9,10,11,12,13,14],[0,14])])
def numnahlaw07_SharesSums.B14:List Nat:=[0,0,0,6,14,30,62,0,0,384,896,1920,4094,8190,16383,32767]
theorem numnahlaw07_SharesSums.tab14:rtab .any (opsOf Try.f14 14) = numnahlaw07_SharesSums.T14:=by kernel_rfl
theorem numnahlaw07_SharesSums.bits14:waitsOk numnahlaw07_SharesSums.T14.2 numnahlaw07_SharesSums.B14 = true:=by kernel_rfl
def numnahlaw07_SharesSums.T20:Bool × List (List Nat × List Nat):=(true,[([],[]),([0],[0]),([1],[1]),([2],[2]),([3,2],[2,3]),([2,4],[2,4]),([5,2],[5]),([6],[6]),([7,6],[6,7]),([6,8],[6,8]),([9,6],[9]),([10],[10]),([11,10],[10,11]),([10,12],[10,12]),([13,10],[13]),([14],[14]),([15,14],[14,15]),([14,16],[14,16]),([17,14],[17]),([18],[18]),([18],[18]),([19,20,18],[18,19,20]),([18,21],[18,21]),([22,18],[22]),([23],[23]),([23,23],[23]),([24,25,23],[23,24,25]),([23,26],[23,26]),([27,25],[27]),([28],[28]),([28],[28]),([29,30,28,28],[28,29,30]),([31,28],[28,31]),([28,32],[28,32]),([33,31],[33]),([34],[34]),([35,34],[34,35]),([34],[34]),([37,34],[34,37]),([36,38,34],[34,36,38]),([34,39],[34,39])])
def numnahlaw07_SharesSums.B20:List Nat:=[0,1,3,7,15,31,63,127,255,511,1023,2047,4095,8191,16383,32767,65535,131071,262143,524287,524287,2097151,4194303,8388607,16777215,16777215,67108863,134217727,268435455,536870911,536870911,2147483647,4294967295,8589934591,17179869183,34359738367,68719476735,34359738367,171798691839,549755813887,1099511627775]
theorem numnahlaw07_SharesSums.tab20:rtab .any (opsOf Try.f14 20) = numnahlaw07_SharesSums.T20:=by kernel_rfl
theorem numnahlaw07_SharesSums.bits20:waitsOk numnahlaw07_SharesSums.T20.2 numnahlaw07_SharesSums.B20 = true:=by kernel_rfl
def numnahlaw07_SharesSums.T25:Bool × List (List Nat × List Nat):=(true,[([],[]),([],[]),([1],[1]),([0,2],[0,2]),([3],[3]),([],[]),([],[]),([5,6],[5,6]),([7],[7]),([4,8],[4,8]),([9],[9]),([10],[10]),([10],[10]),([11,9,0,1,2,3,4,5,6,7,8,9,10,11],[11]),([12,13,0,1,2,3,4,5,6,7,8,9,10,11,12,13],[12])])
def numnahlaw07_SharesSums.B25:List Nat:=[0,0,2,7,15,0,0,96,224,511,1023,2047,2047,4095,16383]
theorem numnahlaw07_SharesSums.tab25:rtab .any (opsOf Try.f14 25) = numnahlaw07_SharesSums.T25:=by kernel_rfl
theorem numnahlaw07_SharesSums.bits25:waitsOk numnahlaw07_SharesSums.T25.2 numnahlaw07_SharesSums.B25 = true:=by kernel_rfl
def numnahlaw07_SharesSums.T26:Bool × List (List Nat × List Nat):=(true,[([],[]),([],[]),([0,1],[0,1]),([2],[2]),([],[]),([],[]),([5],[5]),([4,6],[4,6]),([7],[7]),([3,8],[3,8]),([9],[9]),([10],[10]),([10],[10]),([11,9,0,1,2,3,4,5,6,7,8,9,10,11],[11]),([12,13,0,1,2,3,4,5,6,7,8,9,10,11,12,13],[12])])
def numnahlaw07_SharesSums.B26:List Nat:=[0,0,3,7,0,0,32,112,240,511,1023,2047,2047,4095,16383]
theorem numnahlaw07_SharesSums.tab26:rtab .any (opsOf Try.f14 26) = numnahlaw07_SharesSums.T26:=by kernel_rfl
theorem numnahlaw07_SharesSums.bits26:waitsOk numnahlaw07_SharesSums.T26.2 numnahlaw07_SharesSums.B26 = true:=by kernel_rfl
def numnahlaw07_SharesSums.T27:Bool × List (List Nat × List Nat):=(true,[([],[]),([],[]),([1],[1]),([0,2],[0,2]),([3],[3]),([],[]),([],[]),([5,6],[5,6]),([7],[7]),([4,8],[4,8]),([9],[9]),([10],[10]),([10],[10]),([11,9,0,1,2,3,4,5,6,7,8,9,10,11],[11]),([12,13,0,1,2,3,4,5,6,7,8,9,10,11,12,13],[12])])
def numnahlaw07_SharesSums.B27:List Nat:=[0,0,2,7,15,0,0,96,224,511,1023,2047,2047,4095,16383]
theorem numnahlaw07_SharesSums.tab27:rtab .any (opsOf Try.f14 27) = numnahlaw07_SharesSums.T27:=by kernel_rfl
theorem numnahlaw07_SharesSums.bits27:waitsOk numnahlaw07_SharesSums.T27.2 numnahlaw07_SharesSums.B27 = true:=by kernel_rfl
theorem numnahlaw07_SharesSums.calls (k:Nat) (A0:Option Addr) (c0:Nat) (l0:List Int) (r:Bool) (w:World) (H5:Kd.C (Kd.int .i64) w A0 l0.length l0) (H6:l0.length ≤ c0) (h:numnahlaw07_SharesSums.f k l0 = some r) (hrt_:r = true) :
  Calls Try.prog 14 #[.slice A0 l0.length c0] w fun e w'=>e = .returned (.bool r) ∧ Below w.heap.size w w':=by
 have HRT:=Aside0.mk hrt_
 clear hrt_
 have N8:=Try.underlying23
 have L3:=A_ H5
 have Q0:=A_ H6
 clear H5 H6
 have HB:=A_ (Below.refl w.heap.size w)
 have H:(numnahlaw07_SharesSums.l0 k l0 ([]:List (S23)) 0) = some r:=h
 clear h
 have H':=A_ H
 clear H
 go_enter Try.func14,Try.ntmps14
 go_wp2
 go_loopg [3,5] k (fun kq v3 v5 w'=>∃ (a2:List (S23)) (d2:Int),v5 = .int .i64 d2 ∧ Aside0 (numnahlaw07_SharesSums.l0 kq l0 a2 d2 = some r) ∧ Aside0 (kq ≤ k) ∧ Aside0 (Kd.R k23 23 w' w.heap.size (fun _=>True) v3 a2) ∧ Aside0 (Below w.heap.size w w'))
 case atStart=>exact ⟨(([]:List (S23))),(0),(by first | rfl | (simp;done) | (simp [*];done)),H',⟨Nat.le_refl _⟩,⟨by first | exact Kd.R_nil _ _ _ _ _ | exact Kd.N_nil _ _ _ _ _ | exact Kd.V_nil _ _ _ _ _ | exact Kd.Q_nil _ _ _ _ _ | exact Kd.S_nil _ _ _ _ _⟩,⟨by repeat (first | (with_reducible first | exact HB.out | apply below_alloc | apply pw_below_drewN | apply below_drew1) | exact HB.out)⟩⟩
 case round=>as_aux_lemma =>
  clear H'
  try clear c1
  obtain ⟨a2,d2,rfl,HA,l9,a6,HB⟩:=hrel
  cases gk with
  | zero=>exact absurd HA.out (by simp [numnahlaw07_SharesSums.l0])
  | succ k1 =>
   have H:=HA.out
   clear HA
   simp only [numnahlaw07_SharesSums.l0] at H
   have J7:=A_ H
   clear H
   go_upto_region 3 with (fail)
   go_cut [35] (fun N9 wc=>∃ (kq:Nat) (q6:Bool),N9 = .bool q6 ∧ Aside0 (numnahlaw07_SharesSums.j1 kq l0 a2 ([]:List (S23)) d2 q6 = some r) ∧ Aside0 (kq ≤ k1) ∧ Aside0 (Kd.R k23 23 wc w.heap.size (fun k_=>some k_ ≠ ((.slice none 0 0):Value).ownBlock) u3 a2) ∧ Aside0 (Kd.R k23 23 wc w.heap.size (fun k_=>some k_ ≠ (u3:Value).ownBlock) (.slice none 0 0) ([]:List (S23))) ∧ Aside0 (Below w.heap.size w wc))
   case first=>as_aux_lemma =>
    have H:=J7.out
    clear J7
    by_cases c3:(wrap64 (d2 + 1)) < (l0.length:Int)
    case neg =>
     rw [if_neg c3] at H
     have m1:decide ((wrap64 (d2 + 1)) < (l0.length:Int)) = false:=decide_eq_false c3
     clear c3
     (first | rw [m1] | (simp only [i64_w,i32_w];rw [m1]) | skip)
     have H':=A_ H
     clear H
     go_wp2
     go_meet
     case rel=>exact ⟨_,(false),(by first | rfl | (simp;done) | (simp [*];done)),H',⟨by have:=l9.out;first | omega | exact Nat.le_refl _⟩,⟨by (with_reducible repeat (first | apply Kd.R_alloc | apply Kd.R_drewN | apply Kd.R_drew));exact Kd.R_mono a6.out (fun _ hk=>(by simp [Value.ownBlock]))⟩,⟨by first | exact Kd.R_nil _ _ _ _ _ | exact Kd.N_nil _ _ _ _ _ | exact Kd.V_nil _ _ _ _ _ | exact Kd.Q_nil _ _ _ _ _ | exact Kd.S_nil _ _ _ _ _⟩,⟨by repeat (first | (with_reducible first | exact HB.out | apply below_alloc | apply pw_below_drewN | apply below_drew1) | exact HB.out)⟩⟩
    rw [if_pos c3] at H
    have m1:decide ((wrap64 (d2 + 1)) < (l0.length:Int)) = true:=decide_eq_true c3
    clear c3
    (first | rw [m1] | (simp only [i64_w,i32_w];rw [m1]) | skip)
    have H':=A_ H
    clear H
    obtain ⟨Q1,Q2,O0⟩:=Kd.R_slice a6.out
    subst O0
    go_wp2
    go_meet
    case rel=>exact ⟨_,(decide ((a2.length:Int) < 5)),(by first | rfl | (simp;done) | (simp [*];done)),H',⟨by have:=l9.out;first | omega | exact Nat.le_refl _⟩,⟨by (with_reducible repeat (first | apply Kd.R_alloc | apply Kd.R_drewN | apply Kd.R_drew));exact Kd.R_mono a6.out (fun _ hk=>(by simp [Value.ownBlock]))⟩,⟨by first | exact Kd.R_nil _ _ _ _ _ | exact Kd.N_nil _ _ _ _ _ | exact Kd.V_nil _ _ _ _ _ | exact Kd.Q_nil _ _ _ _ _ | exact Kd.S_nil _ _ _ _ _⟩,⟨by repeat (first | (with_reducible first | exact HB.out | apply below_alloc | apply pw_below_drewN | apply below_drew1) | exact HB.out)⟩⟩
   case rest =>
    clear J7
    try clear c1
    try clear p2
    try clear c3
    try clear m1
    obtain ⟨kq,q6,rfl,HA,m2,a6,b3,HB⟩:=hcut
    cases kq with
    | zero=>exact absurd HA.out (by simp [numnahlaw07_SharesSums.j1])
    | succ p8 =>
     have H:=HA.out
     clear HA
     simp only [numnahlaw07_SharesSums.j1] at H
     by_cases c5:q6 = true
     ·subst c5
      have H1:(if 0 ≤ d2 then (if d2 < (l0.length:Int) then ((numnahlaw07_mod.f (rd l0 d2) 2001).bind fun h0=>(if 0 ≤ (wrap64 (d2 + 1)) then (if (wrap64 (d2 + 1)) < (l0.length:Int) then ((numnahlaw07_mod.f (rd l0 (wrap64 (d2 + 1))) 20).bind fun g4=>((numnahref07_Reduced.f p8 (wrap64 (h0 - 1000)) (wrap64 (1 + g4))).bind fun e0=>(if a2.length < 8796093022208 then (numnahlaw07_SharesSums.l0 p8 l0 (a2 ++ [(⟨e0.1,e0.2⟩:S23)]) (wrap64 (d2 + 2))) else (none)))) else (none)) else (none))) else (none)) else (none)) = some r:=by rw [if_pos rfl] at H;exact H
      clear H
      have H:=H1
      clear H1
      by_cases c6:0 ≤ d2
      case neg =>
       rw [if_neg c6] at H
       exact absurd H (by simp)
      rw [if_pos c6] at H
      have C4:decide (0 ≤ d2) = true:=decide_eq_true c6
      clear c6
      by_cases c7:d2 < (l0.length:Int)
      case neg =>
       rw [if_neg c7] at H
       exact absurd H (by simp)
      rw [if_pos c7] at H
      have C5:decide (d2 < (l0.length:Int)) = true:=decide_eq_true c7
      clear c7
      replace H:=Option.bind_eq_some_iff.mp H
      obtain ⟨h0,L4,H⟩:=H
      replace H:(if 0 ≤ (wrap64 (d2 + 1)) then (if (wrap64 (d2 + 1)) < (l0.length:Int) then ((numnahlaw07_mod.f (rd l0 (wrap64 (d2 + 1))) 20).bind fun g4=>((numnahref07_Reduced.f p8 (wrap64 (h0 - 1000)) (wrap64 (1 + g4))).bind fun e0=>(if a2.length < 8796093022208 then (numnahlaw07_SharesSums.l0 p8 l0 (a2 ++ [(⟨e0.1,e0.2⟩:S23)]) (wrap64 (d2 + 2))) else (none)))) else (none)) else (none)) = some r:=H
      have A8:=A_ L4
      clear L4
      obtain ⟨p9,r0⟩:∃ j_:Int,(wrap64 (d2 + 1)) = j_:=⟨_,rfl⟩
      replace H:(if 0 ≤ (p9) then (if (p9) < (l0.length:Int) then ((numnahlaw07_mod.f (rd l0 (p9)) 20).bind fun g4=>((numnahref07_Reduced.f p8 (wrap64 (h0 - 1000)) (wrap64 (1 + g4))).bind fun e0=>(if a2.length < 8796093022208 then (numnahlaw07_SharesSums.l0 p8 l0 (a2 ++ [(⟨e0.1,e0.2⟩:S23)]) (wrap64 (d2 + 2))) else (none)))) else (none)) else (none)) = some r:=by first | (rw [r0] at H;exact H) | (simp only [r0] at H ⊢;exact H)
      (try rw [r0] at A8)
      have hji9w:(IntKind.i64.wrap (d2 + 1)) = p9:=(i64_w _).trans r0
      by_cases c10:0 ≤ (p9)
      case neg =>
       rw [if_neg c10] at H
       exact absurd H (by simp)
      rw [if_pos c10] at H
      have u8:decide (0 ≤ (p9)) = true:=decide_eq_true c10
      clear c10
      by_cases A7:(p9) < (l0.length:Int)
      case neg =>
       rw [if_neg A7] at H
       exact absurd H (by simp)
      rw [if_pos A7] at H
      have u9:decide ((p9) < (l0.length:Int)) = true:=decide_eq_true A7
      clear A7
      replace H:=Option.bind_eq_some_iff.mp H
      obtain ⟨g4,C6,H⟩:=H
      replace H:((numnahref07_Reduced.f p8 (wrap64 (h0 - 1000)) (wrap64 (1 + g4))).bind fun e0=>(if a2.length < 8796093022208 then (numnahlaw07_SharesSums.l0 p8 l0 (a2 ++ [(⟨e0.1,e0.2⟩:S23)]) (wrap64 (d2 + 2))) else (none))) = some r:=H
      have O1:=A_ C6
      clear C6
      replace H:=Option.bind_eq_some_iff.mp H
      obtain ⟨⟨l5,l6⟩,t9,H⟩:=H
      replace H:(if a2.length < 8796093022208 then (numnahlaw07_SharesSums.l0 p8 l0 (a2 ++ [(⟨l5,l6⟩:S23)]) (wrap64 (d2 + 2))) else (none)) = some r:=H
      have O2:=A_ t9
      clear t9
      by_cases A9:a2.length < 8796093022208
      case neg =>
       rw [if_neg A9] at H
       exact absurd H (by simp)
      rw [if_pos A9] at H
      have C7:=A_ A9
      clear A9
      obtain ⟨v0,i5⟩:∃ y_:List (S23),y_ = (a2 ++ [(⟨l5,l6⟩:S23)]):=⟨_,rfl⟩
      replace H:(numnahlaw07_SharesSums.l0 p8 l0 v0 (wrap64 (d2 + 2))) = some r:=by first | (rw [i5];with_reducible exact H) | (have r1:=(Option.bind_some _ _).symm.trans H;rw [i5];with_reducible exact r1) | (have r1:=(Option.bind_some _ _).symm.trans H;with_reducible exact r1) | with_reducible exact H | (rw [i5];exact H) | exact H
      have w4:=A_ i5
      clear i5
      have H':=A_ H
      clear H
      try go_wp2
      replace a6:=A_ (Kd.R_drew a6.out)
      replace b3:=A_ (Kd.R_drew b3.out)
      replace HB:=A_ (below_drew1 HB.out)
      have m3:0 ≤ (d2:Int):=of_decide_eq_true (by first | (with_reducible assumption) | assumption)
      have m4:d2 < (l0.length:Int):=of_decide_eq_true (by first | (with_reducible assumption) | assumption)
      obtain ⟨q0,C8,g0⟩:=Kd.at_int L3.out d2 m3 m4
      have b7:=g0
      cases C8
      replace g0:=(HB.out.cell (World.block_lt_of_cell? w _ g0)).trans g0
      replace m3:=eq_true m3
      replace m4:=eq_true m4
      have m5:0 ≤ ((p9):Int):=of_decide_eq_true (by first | (with_reducible assumption) | assumption)
      have m6:(p9) < (l0.length:Int):=of_decide_eq_true (by first | (with_reducible assumption) | assumption)
      obtain ⟨w5,C9,g1⟩:=Kd.at_int L3.out (p9) m5 m6
      have b8:=g1
      obtain rfl:q0 = w5:=(by injection C9)
      replace g1:=(HB.out.cell (World.block_lt_of_cell? w _ g1)).trans g1
      replace m5:=eq_true m5
      replace m6:=eq_true m6
      refine start_ (n:=18) (S:=fun w'=>w'.cell? (q0.add (d2).toNat) = some (.int .i64 (rd l0 d2)) ∧ w'.cell? (q0.add ((p9)).toNat) = some (.int .i64 (rd l0 (p9)))) (ds:=[]) (ba 18 0) (by kernel_rfl) rfl rfl ⟨((HB.out.cell (World.block_lt_of_cell? w _ b7)).trans b7),((HB.out.cell (World.block_lt_of_cell? w _ b8)).trans b8)⟩ (fun hHeld=>?_);refine with_tabW numnahlaw07_SharesSums.tab5 numnahlaw07_SharesSums.bits5 (fun HT_ HW_=>?_)
      generalize wc.drew = Q3 at a6 b3 HB g0 g1 hHeld ⊢
      refine pq 0 38 1 HT_ ?_
      refine pq 1 39 3 HT_ ?_
      refine pq 2 40 7 HT_ ?_
      refine pq 3 41 15 HT_ ?_
      refine pq 7 45 143 HT_ ?_
      refine pq 8 46 399 HT_ ?_
      refine pq 9 47 911 HT_ ?_
      refine pq 10 48 1935 HT_ ?_
      refine tq 4 42 1951 HT_ HW_ hHeld ?_
      refine tq 11 49 3999 HT_ HW_ hHeld ?_
      refine oq 5 43 4031 HT_ (fun K hK=>?_)
      refine gq Try.func29 #[.int .i64 (rd l0 d2),.int .i64 2001] ?_
      with_reducible refine (numnahlaw07_mod.calls (rd l0 d2) 2001 h0 _ A8.out).mono ?_
      rintro e w' ⟨rfl,⟨nd,rfl⟩⟩
      refine ⟨_,rfl,?_⟩
      refine hK.out _ _ ⟨((HB.out.cell (World.block_lt_of_cell? w _ b7)).trans b7),((HB.out.cell (World.block_lt_of_cell? w _ b8)).trans b8)⟩ (fun hHeld=>?_)
      clear hK K
      refine nq 43 ?_
      refine pq 6 44 4095 HT_ ?_
      refine oq 12 50 8191 HT_ (fun K hK=>?_)
      refine goes_ Try.func29 (by kernel_rfl) rfl #[.int .i64 (rd l0 (p9)),.int .i64 20] (by rfl) rfl rfl (by (try simp only [List.map_toArray,List.map_cons,List.map_nil]);first | done | (simp only [r0];rfl) | rfl | (simp only [List.length_drop,List.length_take];rfl)) ?_
      with_reducible refine (numnahlaw07_mod.calls (rd l0 (p9)) 20 g4 _ O1.out).mono ?_
      rintro e w' ⟨rfl,⟨nd,rfl⟩⟩
      refine ⟨_,rfl,?_⟩
      refine hK.out _ _ ⟨((HB.out.cell (World.block_lt_of_cell? w _ b7)).trans b7),((HB.out.cell (World.block_lt_of_cell? w _ b8)).trans b8)⟩ (fun hHeld=>?_)
      clear hK K
      refine nq 50 ?_
      refine pq 13 51 16383 HT_ ?_
      refine oq 14 52 32767 HT_ (fun K hK=>?_)
      refine gq Try.func34 #[.int .i64 (wrap64 (h0 - 1000)),.int .i64 (wrap64 (1 + g4))] ?_
      with_reducible refine (numnahref07_Reduced.calls p8 (wrap64 (h0 - 1000)) (wrap64 (1 + g4)) l5 l6 _ O2.out).mono ?_
      rintro e Q4 ⟨rfl,hb⟩
      refine ⟨_,rfl,?_⟩
      replace a6:=rB a6 hb
      replace b3:=rB b3 hb
      replace HB:=bB HB hb
      (try clear hb)
      refine hK.out _ _ ⟨((HB.out.cell (World.block_lt_of_cell? w _ b7)).trans b7),((HB.out.cell (World.block_lt_of_cell? w _ b8)).trans b8)⟩ (fun hHeld=>?_)
      clear hK K
      refine nq 52 ?_
      refine oq 15 53 65535 HT_ (fun K hK=>?_)
      refine value_ (w1:=?_) (v:=?_) (by rfl) rfl ?_ ?_
      rotate_left 2
      ·go_simp
       constructor
       ·rfl
       rfl
      refine hK.out _ _ ⟨(World.cell?_alloc_lt _ _ _ (World.block_lt_of_cell? _ _ (((HB.out.cell (World.block_lt_of_cell? w _ b7)).trans b7)))).trans (((HB.out.cell (World.block_lt_of_cell? w _ b7)).trans b7)),(World.cell?_alloc_lt _ _ _ (World.block_lt_of_cell? _ _ (((HB.out.cell (World.block_lt_of_cell? w _ b8)).trans b8)))).trans (((HB.out.cell (World.block_lt_of_cell? w _ b8)).trans b8))⟩ (fun hHeld=>?_)
      clear hK K
      refine nq 53 ?_
      refine oq 16 54 131071 HT_ (fun K hK=>?_)
      refine Kd.R_append_step k23 (w0:=w) w.heap.size (by rfl) (.tmp 38) (.tmp 53) 35 23 (.agg #[(.int .i64 0),(.int .i64 0)]) 16 rfl Try.underlying35 info23 rfl (by decide) (by omega) u3 a2 (⟨l5,l6⟩:S23) [.int .i64 l5,.int .i64 l6] (fun k_=>some k_ ≠ (.slice none 0 0:Value).ownBlock) (fun _=>False) rfl rfl ?aP (fun _ hk=>hk.elim) ?aF ?aO ?aB ?aS ?aL ?_
      (case aP=>exact k23_mkM _ _ _ (⟨l5,l6⟩:S23))
      (case aB=>exact (bl HB))
      (case aF=>exact (fun k_ hk=>Kd.fresh' (Kd.R_lt (rs b3)) k_ hk))
      (case aO=>exact (rs a6))
      (case aS=>exact (below_size (bl HB)))
      (case aL=>have:=C7.out;omega)
      intro L5 Q5 ho hb hg hat
      rw [← w4.out] at ho
      have w6:=A_ ho
      replace b3:=A_ (Kd.R_after (ok:=(fun _=>True)) (by (with_reducible repeat (first | apply Kd.R_alloc | apply Kd.R_drewN | apply Kd.R_drew));exact Kd.R_mono b3.out (fun _ hk=>⟨trivial,hk⟩)) hg hat)
      replace HB:=A_ hb
      clear a6 ho hb hg hat
      refine hK.out _ _ ⟨((HB.out.cell (World.block_lt_of_cell? w _ b7)).trans b7),((HB.out.cell (World.block_lt_of_cell? w _ b8)).trans b8)⟩ (fun hHeld=>?_)
      clear hK K
      refine nq 54 ?_
      refine pq 17 3 262143 HT_ ?_
      refine done_ (done_of HT_.out (by kernel_rfl)) ?_
      try go_wp2
      go_roundg p8
      case measure=>have:=l9.out;have:=m2.out;omega
      case rel=>exact ⟨(v0),(wrap64 (d2 + 2)),(by first | rfl | (simp;done) | (simp [*];done)),H',⟨by have:=l9.out;have:=m2.out;omega⟩,⟨by (with_reducible repeat (first | apply Kd.R_alloc | apply Kd.R_drewN | apply Kd.R_drew));exact Kd.R_mono w6.out (fun _ hk=>trivial)⟩,⟨by repeat (first | (with_reducible first | exact HB.out | apply below_alloc | apply pw_below_drewN | apply below_drew1) | exact HB.out)⟩⟩
     replace c5:=Bool.eq_false_iff.mpr c5
     subst c5
     have H1:(numnahlaw07_SharesSums.l1 p8 a2 ([]:List (S23)) (wrap64 ((a2.length:Int) - 1))) = some r:=by rw [if_neg (show ¬ (false = true) by decide)] at H;exact H
     clear H
     have H:=H1
     clear H1
     have H':=A_ H
     clear H
     obtain ⟨h5,g5,J8⟩:=Kd.R_slice a6.out
     subst J8
     go_wp2
     go_loopg [4,6] p8 (fun kq v4 v6 w'=>∃ (g9:List (S23)) (g2:Int),v6 = .int .i64 g2 ∧ Aside0 (numnahlaw07_SharesSums.l1 kq a2 g9 g2 = some r) ∧ Aside0 (kq ≤ p8) ∧ Aside0 (Kd.R k23 23 w' w.heap.size (fun k_=>some k_ ≠ (v4:Value).ownBlock) (.slice h5 a2.length g5) a2) ∧ Aside0 (Kd.R k23 23 w' w.heap.size (fun k_=>some k_ ≠ ((.slice h5 a2.length g5):Value).ownBlock) v4 g9) ∧ Aside0 (Below w.heap.size w w'))
     case atStart=>exact ⟨(([]:List (S23))),(wrap64 ((a2.length:Int) - 1)),(by first | rfl | (simp;done) | (simp [*];done)),H',⟨Nat.le_refl _⟩,⟨by (with_reducible repeat (first | apply Kd.R_alloc | apply Kd.R_drewN | apply Kd.R_drew));exact a6.out⟩,⟨by (with_reducible repeat (first | apply Kd.R_alloc | apply Kd.R_drewN | apply Kd.R_drew));exact b3.out⟩,⟨by repeat (first | (with_reducible first | exact HB.out | apply below_alloc | apply pw_below_drewN | apply below_drew1) | exact HB.out)⟩⟩
     case round=>as_aux_lemma =>
      clear H'
      try clear c1
      try clear p1
      try clear q1
      try clear hx1
      try clear c2
      try clear p2
      try clear c3
      try clear m1
      try clear c5
      try clear c6
      try clear C4
      try clear p6
      try clear c7
      try clear C5
      try clear c10
      try clear u8
      try clear A7
      try clear u9
      try clear p11
      try clear q11
      try clear hx11
      try clear A9
      try clear g0
      try clear g1
      try clear m3
      try clear m5
      try clear p2
      try clear m4
      try clear m6
      obtain ⟨g9,g2,rfl,HA,q2,a6,b3,HB⟩:=hrel
      cases gk with
      | zero=>exact absurd HA.out (by simp [numnahlaw07_SharesSums.l1])
      | succ k3 =>
       have H:=HA.out
       clear HA
       simp only [numnahlaw07_SharesSums.l1] at H
       by_cases w7:g2 ≥ 0
       ·rw [if_pos w7] at H
        have v1:decide (0 ≤ g2) = true:=decide_eq_true w7
        clear w7
        by_cases D0:0 ≤ g2
        case neg =>
         rw [if_neg D0] at H
         exact absurd H (by simp)
        rw [if_pos D0] at H
        have D1:decide (0 ≤ g2) = true:=decide_eq_true D0
        clear D0
        by_cases D2:g2 < (a2.length:Int)
        case neg =>
         rw [if_neg D2] at H
         exact absurd H (by simp)
        rw [if_pos D2] at H
        have D3:decide (g2 < (a2.length:Int)) = true:=decide_eq_true D2
        clear D2
        by_cases D4:g9.length < 8796093022208
        case neg =>
         rw [if_neg D4] at H
         exact absurd H (by simp)
        rw [if_pos D4] at H
        have D5:=A_ D4
        clear D4
        obtain ⟨v2,i6⟩:∃ y_:List (S23),y_ = (g9 ++ [(⟨(rd_T23 a2 g2).f0,(rd_T23 a2 g2).f1⟩:S23)]):=⟨_,rfl⟩
        replace H:(numnahlaw07_SharesSums.l1 k3 a2 v2 (wrap64 (g2 - 1))) = some r:=by first | (rw [i6];with_reducible exact H) | (have r1:=(Option.bind_some _ _).symm.trans H;rw [i6];with_reducible exact r1) | (have r1:=(Option.bind_some _ _).symm.trans H;with_reducible exact r1) | with_reducible exact H | (rw [i6];exact H) | exact H
        have w8:=A_ i6
        clear i6
        have H':=A_ H
        clear H
        have q7:0 ≤ (g2:Int):=of_decide_eq_true (by first | (with_reducible assumption) | assumption)
        have q8:g2 < (a2.length:Int):=of_decide_eq_true (by first | (with_reducible assumption) | assumption)
        obtain ⟨w9,D6,r2,r3⟩:=at_T23 (Kd.R_reads' a6.out).2.2 g2 q7 q8
        cases D6
        replace q7:=eq_true q7
        replace q8:=eq_true q8
        go_wp2_with (first | ((with_reducible refine gate_builtin (b:=.append) (xs:=#[.tmp 62,.tmp 67]) rfl ?_);(try (refine gate_guard (by rfl) ?_;dsimp only));at_builtin;refine Kd.R_append k23 (w0:=w) w.heap.size rfl (.tmp 62) (.tmp 67) 35 23 (.agg #[(.int .i64 0),(.int .i64 0)]) 16 rfl Try.underlying35 info23 rfl (by decide) (by omega) u4 g9 (⟨(rd_T23 a2 g2).f0,(rd_T23 a2 g2).f1⟩:S23) [.int .i64 ((rd_T23 a2 g2).f0),.int .i64 ((rd_T23 a2 g2).f1)] (fun k_=>some k_ ≠ (.slice (some w9) a2.length g5:Value).ownBlock) (fun _=>False) rfl rfl ?aP (fun _ hk=>hk.elim) ?aF ?aO ?aB ?aS ?aL ?_;(case aP=>exact k23_mkM _ _ _ (⟨(rd_T23 a2 g2).f0,(rd_T23 a2 g2).f1⟩:S23));(case aB=>exact (bl HB));(case aF=>exact (fun k_ hk=>Kd.fresh' (Kd.R_lt (rs a6)) k_ hk));(case aO=>exact (rs b3));(case aS=>exact (below_size (bl HB)));(case aL=>have:=D5.out;omega);intro L6 Q6 ho hb hg hat;rw [← w8.out] at ho;have x1:=A_ ho;replace a6:=A_ (Kd.R_after (ok:=(fun _=>True)) (by (with_reducible repeat (first | apply Kd.R_alloc | apply Kd.R_drewN | apply Kd.R_drew));exact Kd.R_mono a6.out (fun _ hk=>⟨trivial,hk⟩)) hg hat);replace HB:=A_ hb;clear b3;clear ho hb hg hat))
        go_roundg k3
        case measure=>have:=l9.out;have:=m2.out;have:=q2.out;omega
        case rel=>exact ⟨(v2),(wrap64 (g2 - 1)),(by first | rfl | (simp;done) | (simp [*];done)),H',⟨by have:=l9.out;have:=m2.out;have:=q2.out;omega⟩,⟨by (with_reducible repeat (first | apply Kd.R_alloc | apply Kd.R_drewN | apply Kd.R_drew));exact Kd.R_mono a6.out (fun _ hk=>hk.2)⟩,⟨by (with_reducible repeat (first | apply Kd.R_alloc | apply Kd.R_drewN | apply Kd.R_drew));exact x1.out⟩,⟨by repeat (first | (with_reducible first | exact HB.out | apply below_alloc | apply pw_below_drewN | apply below_drew1) | exact HB.out)⟩⟩
       rw [if_neg w7] at H
       have v1:decide (0 ≤ g2) = false:=decide_eq_false w7
       clear w7
       replace H:=Option.bind_eq_some_iff.mp H
       obtain ⟨m0,D7,H⟩:=H
       replace H:(numnahlaw07_SharesSums.l2 k3 a2 g9 m0 0) = some r:=H
       have O3:=A_ D7
       clear D7
       have H':=A_ H
       clear H
       go_wp2_with (first | ((with_reducible refine gate_callee (f:=36) rfl ?_);refine goesL_ (some 70) rfl rfl Try.func36 (by kernel_rfl) rfl #[.slice h5 a2.length g5] rfl (by (try simp only [List.map_toArray,List.map_cons,List.map_nil]);first | done | rfl | (simp only [List.length_drop,List.length_take];rfl)) ?_;(with_reducible refine (numnahlaw07_fracs.calls _ _ a2 m0 _ ?side1 ?side2 O3.out).mono ?_);(case side1=>repeat (first | exact (Kd.R_reads' a6.out).2.2 | (with_reducible refine Kd.C_alloc ?_ _) | (with_reducible refine Kd.C_drewN ?_ _) | (with_reducible refine Kd.C_drew ?_)));(case side2=>exact (Kd.R_reads' a6.out).2.1);rintro e Q7 ⟨L7,rfl,m7,hb⟩;refine ⟨_,rfl,?_⟩;have x2:=A_ (Kd.R_lower (Kd.R_new' (Kd.R_new' m7 (Kd.R_lt (rs a6))) (Kd.R_lt (rs b3))) (below_size (bl HB)));replace a6:=A_ (Kd.R_elder' (rs a6) (Kd.R_base m7) hb);replace b3:=A_ (Kd.R_elder' (rs b3) (Kd.R_base m7) hb);replace HB:=bB HB hb;(try clear hb);(try clear m7)))
       go_loopg [7,8] k3 (fun kq v7 v8 w'=>∃ (i2:List (S23)) (d6:Int),v8 = .int .i64 d6 ∧ Aside0 (numnahlaw07_SharesSums.l2 kq a2 g9 i2 d6 = some r) ∧ Aside0 (kq ≤ k3) ∧ Aside0 (Kd.R k23 23 w' w.heap.size (fun k_=>some k_ ≠ (u4:Value).ownBlock ∧ some k_ ≠ (v7:Value).ownBlock) (.slice h5 a2.length g5) a2) ∧ Aside0 (Kd.R k23 23 w' w.heap.size (fun k_=>some k_ ≠ ((.slice h5 a2.length g5):Value).ownBlock ∧ some k_ ≠ (v7:Value).ownBlock) u4 g9) ∧ Aside0 (Kd.R k23 23 w' w.heap.size (fun k_=>some k_ ≠ ((.slice h5 a2.length g5):Value).ownBlock ∧ some k_ ≠ (u4:Value).ownBlock) v7 i2) ∧ Aside0 (Below w.heap.size w w'))
       case atStart=>exact ⟨(m0),(0),(by first | rfl | (simp;done) | (simp [*];done)),H',⟨Nat.le_refl _⟩,⟨by (with_reducible repeat (first | apply Kd.R_alloc | apply Kd.R_drewN | apply Kd.R_drew));exact a6.out⟩,⟨by (with_reducible repeat (first | apply Kd.R_alloc | apply Kd.R_drewN | apply Kd.R_drew));exact b3.out⟩,⟨by (with_reducible repeat (first | apply Kd.R_alloc | apply Kd.R_drewN | apply Kd.R_drew));exact Kd.R_mono x2.out (fun _ hk=>⟨hk.1.2,hk.2⟩)⟩,⟨by repeat (first | (with_reducible first | exact HB.out | apply below_alloc | apply pw_below_drewN | apply below_drew1) | exact HB.out)⟩⟩
       case round=>as_aux_lemma =>
        clear H'
        try clear c1
        try clear p1
        try clear q1
        try clear hx1
        try clear c2
        try clear p2
        try clear c3
        try clear m1
        try clear c5
        try clear c6
        try clear C4
        try clear p6
        try clear c7
        try clear C5
        try clear c10
        try clear u8
        try clear A7
        try clear u9
        try clear p11
        try clear q11
        try clear hx11
        try clear p12
        try clear q12
        try clear hx12
        try clear A9
        try clear w7
        try clear v1
        try clear D0
        try clear D1
        try clear D2
        try clear D3
        try clear D4
        try clear g0
        try clear g1
        try clear r2
        try clear r3
        try clear p1
        try clear p11
        try clear m3
        try clear m5
        try clear q7
        try clear p2
        try clear p6
        try clear q1
        try clear q11
        try clear m4
        try clear m6
        try clear q8
        obtain ⟨i2,d6,rfl,HA,q9,a6,b3,b6,HB⟩:=hrel
        cases gk with
        | zero=>exact absurd HA.out (by simp [numnahlaw07_SharesSums.l2])
        | succ k4 =>
         have H:=HA.out
         clear HA
         simp only [numnahlaw07_SharesSums.l2] at H
         by_cases B0:d6 < (a2.length:Int)
         ·rw [if_pos B0] at H
          have D8:decide (d6 < (a2.length:Int)) = true:=decide_eq_true B0
          clear B0
          by_cases H7:0 ≤ d6
          case neg =>
           rw [if_neg H7] at H
           exact absurd H (by simp)
          rw [if_pos H7] at H
          have L8:decide (0 ≤ d6) = true:=decide_eq_true H7
          clear H7
          by_cases H8:i2.length < 8796093022208
          case neg =>
           rw [if_neg H8] at H
           exact absurd H (by simp)
          rw [if_pos H8] at H
          have D9:=A_ H8
          clear H8
          obtain ⟨v9,i7⟩:∃ y_:List (S23),y_ = (i2 ++ [(⟨wrap64 (-((rd_T23 a2 d6).f0)),(rd_T23 a2 d6).f1⟩:S23)]):=⟨_,rfl⟩
          replace H:(numnahlaw07_SharesSums.l2 k4 a2 g9 v9 (wrap64 (d6 + 1))) = some r:=by first | (rw [i7];with_reducible exact H) | (have r1:=(Option.bind_some _ _).symm.trans H;rw [i7];with_reducible exact r1) | (have r1:=(Option.bind_some _ _).symm.trans H;with_reducible exact r1) | with_reducible exact H | (rw [i7];exact H) | exact H
          have x9:=A_ i7
          clear i7
          have H':=A_ H
          clear H
          try go_wp2
          replace a6:=A_ (Kd.R_drew a6.out)
          replace b3:=A_ (Kd.R_drew b3.out)
          replace b6:=A_ (Kd.R_drew b6.out)
          replace HB:=A_ (below_drew1 HB.out)
          have r4:0 ≤ (d6:Int):=of_decide_eq_true (by first | (with_reducible assumption) | assumption)
          have r5:d6 < (a2.length:Int):=of_decide_eq_true (by first | (with_reducible assumption) | assumption)
          obtain ⟨g3,E0,m8,m9⟩:=at_T23 (Kd.R_reads' a6.out).2.2 d6 r4 r5
          cases E0
          replace r4:=eq_true r4
          replace r5:=eq_true r5
          have r6:0 ≤ (d6:Int):=of_decide_eq_true (by first | (with_reducible assumption) | assumption)
          have r7:d6 < (a2.length:Int):=of_decide_eq_true (by first | (with_reducible assumption) | assumption)
          obtain ⟨y5,E1,n0,n1⟩:=at_T23 (Kd.R_reads' a6.out).2.2 d6 r6 r7
          obtain rfl:g3 = y5:=(by injection E1)
          replace r6:=eq_true r6
          replace r7:=eq_true r7
          refine start_ (n:=16) (S:=fun w'=>w'.cell? (g3.add ((d6).toNat * 2)) = some (.int .i64 ((rd_T23 a2 d6).f0)) ∧ w'.cell? ⟨(g3.add ((d6).toNat * 2)).block,(g3.add ((d6).toNat * 2)).off + 1,none⟩ = some (.int .i64 ((rd_T23 a2 d6).f1)) ∧ w'.cell? (g3.add ((d6).toNat * 2)) = some (.int .i64 ((rd_T23 a2 d6).f0)) ∧ w'.cell? ⟨(g3.add ((d6).toNat * 2)).block,(g3.add ((d6).toNat * 2)).off + 1,none⟩ = some (.int .i64 ((rd_T23 a2 d6).f1))) (ds:=[13,14]) (ba 16 0) (by kernel_rfl) rfl rfl ⟨m8,m9,n0,n1⟩ (fun hHeld=>?_);refine with_tabW numnahlaw07_SharesSums.tab14 numnahlaw07_SharesSums.bits14 (fun HT_ HW_=>?_)
          generalize wr.drew = Q8 at a6 b3 b6 HB m8 m9 n0 n1 hHeld ⊢
          refine pq 0 77 1 HT_ ?_
          refine pq 1 78 3 HT_ ?_
          refine pq 2 79 7 HT_ ?_
          refine pq 3 80 15 HT_ ?_
          refine pq 4 81 31 HT_ ?_
          refine pq 7 84 159 HT_ ?_
          refine pq 8 85 415 HT_ ?_
          refine pq 9 86 927 HT_ ?_
          refine pq 10 87 1951 HT_ ?_
          refine tq 5 82 1983 HT_ HW_ hHeld ?_
          refine pq 6 83 2047 HT_ ?_
          refine tq 11 88 4095 HT_ HW_ hHeld ?_
          refine pq 12 89 8191 HT_ ?_
          refine last_ (i:=13) (N:=some 90) (ba 16 16383) rfl rfl (one_of HT_.out (by kernel_rfl)) (by decide) (fun K hK=>?_)
          refine value_ (w1:=?_) (v:=?_) (by rfl) rfl ?_ ?_
          rotate_left 2
          ·go_simp
           constructor
           ·rfl
           rfl
          refine hK.out _ _ ?_
          clear hK K
          refine nq 90 ?_
          refine last_ (i:=14) (N:=some 91) (ba 16 32767) rfl rfl (one_of HT_.out (by kernel_rfl)) (by decide) (fun K hK=>?_)
          refine Kd.R_append_step k23 (w0:=w) w.heap.size (by rfl) (.tmp 77) (.tmp 90) 35 23 (.agg #[(.int .i64 0),(.int .i64 0)]) 16 rfl Try.underlying35 info23 rfl (by decide) (by omega) u7 i2 (⟨wrap64 (-((rd_T23 a2 d6).f0)),(rd_T23 a2 d6).f1⟩:S23) [.int .i64 (wrap64 (-((rd_T23 a2 d6).f0))),.int .i64 ((rd_T23 a2 d6).f1)] (fun k_=>some k_ ≠ (.slice (some g3) a2.length g5:Value).ownBlock ∧ some k_ ≠ (u4:Value).ownBlock) (fun _=>False) rfl rfl ?aP (fun _ hk=>hk.elim) ?aF ?aO ?aB ?aS ?aL ?_
          (case aP=>exact k23_mkM _ _ _ (⟨wrap64 (-((rd_T23 a2 d6).f0)),(rd_T23 a2 d6).f1⟩:S23))
          (case aB=>exact (bl HB))
          (case aF=>exact (fun k_ hk=>⟨Kd.fresh' (Kd.R_lt (rs a6)) k_ hk,Kd.fresh' (Kd.R_lt (rs b3)) k_ hk⟩))
          (case aO=>exact (rs b6))
          (case aS=>exact (below_size (bl HB)))
          (case aL=>have:=D9.out;omega)
          intro L9 Q9 ho hb hg hat
          rw [← x9.out] at ho
          have y6:=A_ ho
          replace a6:=A_ (Kd.R_after (ok:=(fun k_=>some k_ ≠ (u4:Value).ownBlock)) (rs a6) hg hat)
          replace b3:=A_ (Kd.R_after (ok:=(fun k_=>some k_ ≠ (.slice (some g3) a2.length g5:Value).ownBlock)) (rs b3) hg hat)
          replace HB:=A_ hb
          clear b6 ho hb hg hat
          refine hK.out _ _ ?_
          clear hK K
          refine nq 91 ?_
          refine pq 15 7 65535 HT_ ?_
          refine done_ (done_of HT_.out (by kernel_rfl)) ?_
          try go_wp2
          go_roundg k4
          case measure=>have:=l9.out;have:=m2.out;have:=q2.out;have:=q9.out;omega
          case rel=>exact ⟨(v9),(wrap64 (d6 + 1)),(by first | rfl | (simp;done) | (simp [*];done)),H',⟨by have:=l9.out;have:=m2.out;have:=q2.out;have:=q9.out;omega⟩,⟨by (with_reducible repeat (first | apply Kd.R_alloc | apply Kd.R_drewN | apply Kd.R_drew));exact a6.out⟩,⟨by (with_reducible repeat (first | apply Kd.R_alloc | apply Kd.R_drewN | apply Kd.R_drew));exact b3.out⟩,⟨by (with_reducible repeat (first | apply Kd.R_alloc | apply Kd.R_drewN | apply Kd.R_drew));exact y6.out⟩,⟨by repeat (first | (with_reducible first | exact HB.out | apply below_alloc | apply pw_below_drewN | apply below_drew1) | exact HB.out)⟩⟩
         rw [if_neg B0] at H
         have D8:decide (d6 < (a2.length:Int)) = false:=decide_eq_false B0
         clear B0
         replace H:=Option.bind_eq_some_iff.mp H
         obtain ⟨⟨b9,d1,g7⟩,A310,H⟩:=H
         replace H:((shares_Sum.f k4 g9).bind fun h3=>((shares_Sum.f k4 i2).bind fun e8=>((shares_Sorted.f k4 a2).bind fun a7=>((shares_Sorted.f k4 a7.1).bind fun e1=>(if g7 = 0 then (if h3.2.2 = 0 then (if e8.2.2 = 0 then (if a7.2 = 0 then (if e1.2 = 0 then (if (!(b9 == h3.1) || (!(d1 == h3.2.1))) = true then (numnahlaw07_SharesSums.j4 k4 a2 a7.1 true) else ((numnahref07_Whole.f 0).bind fun d3=>(if (!(e8.1 == d3.1) || (!(e8.2.1 == d3.2))) = true then (numnahlaw07_SharesSums.j4 k4 a2 a7.1 true) else ((numnahref07_Same.f k4 a7.1 e1.1).bind fun e7=>(if e7 = true then (numnahlaw07_SharesSums.j4 k4 a2 a7.1 ((a7.1.length:Int) != (a2.length:Int))) else (numnahlaw07_SharesSums.j4 k4 a2 a7.1 true)))))) else (numnahlaw07_SharesSums.j4 k4 a2 a7.1 true)) else (numnahlaw07_SharesSums.j4 k4 a2 a7.1 true)) else (numnahlaw07_SharesSums.j4 k4 a2 a7.1 true)) else (numnahlaw07_SharesSums.j4 k4 a2 a7.1 true)) else (numnahlaw07_SharesSums.j4 k4 a2 a7.1 true)))))) = some r:=H
         have O4:=A_ A310
         clear A310
         replace H:=Option.bind_eq_some_iff.mp H
         obtain ⟨⟨d4,d7,h2⟩,A320,H⟩:=H
         replace H:((shares_Sum.f k4 i2).bind fun e8=>((shares_Sorted.f k4 a2).bind fun a7=>((shares_Sorted.f k4 a7.1).bind fun e1=>(if g7 = 0 then (if h2 = 0 then (if e8.2.2 = 0 then (if a7.2 = 0 then (if e1.2 = 0 then (if (!(b9 == d4) || (!(d1 == d7))) = true then (numnahlaw07_SharesSums.j4 k4 a2 a7.1 true) else ((numnahref07_Whole.f 0).bind fun d3=>(if (!(e8.1 == d3.1) || (!(e8.2.1 == d3.2))) = true then (numnahlaw07_SharesSums.j4 k4 a2 a7.1 true) else ((numnahref07_Same.f k4 a7.1 e1.1).bind fun e7=>(if e7 = true then (numnahlaw07_SharesSums.j4 k4 a2 a7.1 ((a7.1.length:Int) != (a2.length:Int))) else (numnahlaw07_SharesSums.j4 k4 a2 a7.1 true)))))) else (numnahlaw07_SharesSums.j4 k4 a2 a7.1 true)) else (numnahlaw07_SharesSums.j4 k4 a2 a7.1 true)) else (numnahlaw07_SharesSums.j4 k4 a2 a7.1 true)) else (numnahlaw07_SharesSums.j4 k4 a2 a7.1 true)) else (numnahlaw07_SharesSums.j4 k4 a2 a7.1 true))))) = some r:=H
         have O5:=A_ A320
         clear A320
         replace H:=Option.bind_eq_some_iff.mp H
         obtain ⟨⟨d0,d5,h6⟩,A330,H⟩:=H
         replace H:((shares_Sorted.f k4 a2).bind fun a7=>((shares_Sorted.f k4 a7.1).bind fun e1=>(if g7 = 0 then (if h2 = 0 then (if h6 = 0 then (if a7.2 = 0 then (if e1.2 = 0 then (if (!(b9 == d4) || (!(d1 == d7))) = true then (numnahlaw07_SharesSums.j4 k4 a2 a7.1 true) else ((numnahref07_Whole.f 0).bind fun d3=>(if (!(d0 == d3.1) || (!(d5 == d3.2))) = true then (numnahlaw07_SharesSums.j4 k4 a2 a7.1 true) else ((numnahref07_Same.f k4 a7.1 e1.1).bind fun e7=>(if e7 = true then (numnahlaw07_SharesSums.j4 k4 a2 a7.1 ((a7.1.length:Int) != (a2.length:Int))) else (numnahlaw07_SharesSums.j4 k4 a2 a7.1 true)))))) else (numnahlaw07_SharesSums.j4 k4 a2 a7.1 true)) else (numnahlaw07_SharesSums.j4 k4 a2 a7.1 true)) else (numnahlaw07_SharesSums.j4 k4 a2 a7.1 true)) else (numnahlaw07_SharesSums.j4 k4 a2 a7.1 true)) else (numnahlaw07_SharesSums.j4 k4 a2 a7.1 true)))) = some r:=H
         have O6:=A_ A330
         clear A330
         replace H:=Option.bind_eq_some_iff.mp H
         obtain ⟨⟨a5,h9⟩,A340,H⟩:=H
         replace H:((shares_Sorted.f k4 a5).bind fun e1=>(if g7 = 0 then (if h2 = 0 then (if h6 = 0 then (if h9 = 0 then (if e1.2 = 0 then (if (!(b9 == d4) || (!(d1 == d7))) = true then (numnahlaw07_SharesSums.j4 k4 a2 a5 true) else ((numnahref07_Whole.f 0).bind fun d3=>(if (!(d0 == d3.1) || (!(d5 == d3.2))) = true then (numnahlaw07_SharesSums.j4 k4 a2 a5 true) else ((numnahref07_Same.f k4 a5 e1.1).bind fun e7=>(if e7 = true then (numnahlaw07_SharesSums.j4 k4 a2 a5 ((a5.length:Int) != (a2.length:Int))) else (numnahlaw07_SharesSums.j4 k4 a2 a5 true)))))) else (numnahlaw07_SharesSums.j4 k4 a2 a5 true)) else (numnahlaw07_SharesSums.j4 k4 a2 a5 true)) else (numnahlaw07_SharesSums.j4 k4 a2 a5 true)) else (numnahlaw07_SharesSums.j4 k4 a2 a5 true)) else (numnahlaw07_SharesSums.j4 k4 a2 a5 true))) = some r:=H
         have O7:=A_ A340
         clear A340
         replace H:=Option.bind_eq_some_iff.mp H
         obtain ⟨⟨i8,i9⟩,A350,H⟩:=H
         replace H:(if g7 = 0 then (if h2 = 0 then (if h6 = 0 then (if h9 = 0 then (if i9 = 0 then (if (!(b9 == d4) || (!(d1 == d7))) = true then (numnahlaw07_SharesSums.j4 k4 a2 a5 true) else ((numnahref07_Whole.f 0).bind fun d3=>(if (!(d0 == d3.1) || (!(d5 == d3.2))) = true then (numnahlaw07_SharesSums.j4 k4 a2 a5 true) else ((numnahref07_Same.f k4 a5 i8).bind fun e7=>(if e7 = true then (numnahlaw07_SharesSums.j4 k4 a2 a5 ((a5.length:Int) != (a2.length:Int))) else (numnahlaw07_SharesSums.j4 k4 a2 a5 true)))))) else (numnahlaw07_SharesSums.j4 k4 a2 a5 true)) else (numnahlaw07_SharesSums.j4 k4 a2 a5 true)) else (numnahlaw07_SharesSums.j4 k4 a2 a5 true)) else (numnahlaw07_SharesSums.j4 k4 a2 a5 true)) else (numnahlaw07_SharesSums.j4 k4 a2 a5 true)) = some r:=H
         have O8:=A_ A350
         clear A350
         have y7:=A_ H
         clear H
         go_upto_region 20 with (first | ((with_reducible refine gate_callee (f:=48) rfl ?_);refine goesL_ (some 94) rfl rfl Try.func48 (by kernel_rfl) rfl #[.slice h5 a2.length g5] rfl (by (try simp only [List.map_toArray,List.map_cons,List.map_nil]);first | done | rfl | (simp only [List.length_drop,List.length_take];rfl)) ?_;(with_reducible refine (shares_Sum.calls k4 _ _ a2 b9 d1 g7 _ ?side1 ?side2 O4.out).mono ?_);(case side1=>repeat (first | exact (Kd.R_reads' a6.out).2.2 | (with_reducible refine Kd.C_alloc ?_ _) | (with_reducible refine Kd.C_drewN ?_ _) | (with_reducible refine Kd.C_drew ?_)));(case side2=>exact (Kd.R_reads' a6.out).2.1);rintro e R0 ⟨rfl,hb⟩;refine ⟨_,rfl,?_⟩;replace a6:=rB a6 hb;replace b3:=rB b3 hb;replace b6:=rB b6 hb;replace HB:=bB HB hb;(try clear hb)) | ((with_reducible refine gate_dst (N:=9) rfl ?_);(try (refine gate_guard (by rfl) ?_;dsimp only));refine box_event ?hg (N:=9) ?hd (cs:=#[.int .i64 0,.int .i64 0]) (t:=23) ?hr ?_;(case hd=>rfl);(case hg=>rfl);(case hr=>first | (go_simp;done) | (go_simp;rfl));intro b1 hg M0 hbox hb;have a1:=A_ hbox;have y8:=gw hg HB;have e4:=y8;replace a6:=A_ (Kd.R_below (Kd.R_elderB (rs a6) b1 (Nat.le_of_eq hg.symm)) hb);replace b3:=A_ (Kd.R_below (Kd.R_elderB (rs b3) b1 (Nat.le_of_eq hg.symm)) hb);replace b6:=A_ (Kd.R_below (Kd.R_elderB (rs b6) b1 (Nat.le_of_eq hg.symm)) hb);replace HB:=bB HB hb;clear hb hbox hg;have H9:M0.cell? ⟨b1,0,none⟩ = some (.int .i64 0):=cz a1 0;have I0:M0.cell? ⟨b1,1,none⟩ = some (.int .i64 0):=cz a1 1;have I1:=blk_frozen a1.out 0;have I2:=blk_frozen a1.out 1;obtain ⟨y9,u0,J9⟩:=Kd.R_slice b3.out;subst J9) | ((with_reducible refine gate_callee (f:=48) rfl ?_);refine goesL_ (some 99) rfl rfl Try.func48 (by kernel_rfl) rfl #[.slice y9 g9.length u0] rfl (by (try simp only [List.map_toArray,List.map_cons,List.map_nil]);first | done | rfl | (simp only [List.length_drop,List.length_take];rfl)) ?_;(with_reducible refine (shares_Sum.calls k4 _ _ g9 d4 d7 h2 _ ?side1 ?side2 O5.out).mono ?_);(case side1=>refine (Kd.R_reads' (e:=23) (base:=w.heap.size) (ok:=fun k_=>((some k_ ≠ (.slice h5 a2.length g5:Value).ownBlock ∧ some k_ ≠ (u7:Value).ownBlock) ∧ k_ ≠ b1)) (n:=g9.length) (c:=u0) ?_).2.2;exact (by (with_reducible repeat (first | apply Kd.R_alloc | apply Kd.R_drewN | apply Kd.R_drew));exact (Kd.R_mono (Kd.R_far (p:=⟨b1,1,none⟩) (Kd.R_far (p:=⟨b1,0,none⟩) (Kd.R_mono b3.out (fun k_ hk=>(⟨hk,hk.2⟩:_ ∧ k_ ≠ b1))) (fun _ hk=>hk.2) (.int .i64 b9)) (fun _ hk=>hk.2) (.int .i64 d1)) (fun _ h_=>h_.1))));(case side2=>exact (Kd.R_reads' b3.out).2.1);rintro e R1 ⟨rfl,hb⟩;refine ⟨_,rfl,?_⟩;replace a6:=A_ (Kd.R_below (by (with_reducible repeat (first | apply Kd.R_alloc | apply Kd.R_drewN | apply Kd.R_drew));exact (Kd.R_mono (Kd.R_far (p:=⟨b1,1,none⟩) (Kd.R_far (p:=⟨b1,0,none⟩) (Kd.R_mono a6.out (fun k_ hk=>(⟨hk,hk.2⟩:_ ∧ k_ ≠ b1))) (fun _ hk=>hk.2) (.int .i64 b9)) (fun _ hk=>hk.2) (.int .i64 d1)) (fun _ h_=>h_.1))) hb);replace b3:=A_ (Kd.R_below (by (with_reducible repeat (first | apply Kd.R_alloc | apply Kd.R_drewN | apply Kd.R_drew));exact (Kd.R_mono (Kd.R_far (p:=⟨b1,1,none⟩) (Kd.R_far (p:=⟨b1,0,none⟩) (Kd.R_mono b3.out (fun k_ hk=>(⟨hk,hk.2⟩:_ ∧ k_ ≠ b1))) (fun _ hk=>hk.2) (.int .i64 b9)) (fun _ hk=>hk.2) (.int .i64 d1)) (fun _ h_=>h_.1))) hb);replace b6:=A_ (Kd.R_below (by (with_reducible repeat (first | apply Kd.R_alloc | apply Kd.R_drewN | apply Kd.R_drew));exact (Kd.R_mono (Kd.R_far (p:=⟨b1,1,none⟩) (Kd.R_far (p:=⟨b1,0,none⟩) (Kd.R_mono b6.out (fun k_ hk=>(⟨hk,hk.2⟩:_ ∧ k_ ≠ b1))) (fun _ hk=>hk.2) (.int .i64 b9)) (fun _ hk=>hk.2) (.int .i64 d1)) (fun _ h_=>h_.1))) hb);replace a1:=A_ (blk_below (g:=b1) (o:=.cells #[.int .i64 b9,.int .i64 d1] 23 (0,0)) (by (with_reducible repeat (first | refine blk_drewN ?_ _ | refine blk_drew ?_ | refine blk_alloc ?_ _));refine blk_put (cs:=#[.int .i64 b9,.int .i64 0]) ?_ 1 _ rfl;(with_reducible repeat (first | refine blk_drewN ?_ _ | refine blk_drew ?_ | refine blk_alloc ?_ _));refine blk_put (cs:=#[.int .i64 0,.int .i64 0]) ?_ 0 _ rfl;(with_reducible repeat (first | refine blk_drewN ?_ _ | refine blk_drew ?_ | refine blk_alloc ?_ _));exact a1.out) hb);replace HB:=bB HB hb;(try clear hb)) | ((with_reducible refine gate_dst (N:=11) rfl ?_);(try (refine gate_guard (by rfl) ?_;dsimp only));refine box_event ?hg (N:=11) ?hd (cs:=#[.int .i64 0,.int .i64 0]) (t:=23) ?hr ?_;(case hd=>rfl);(case hg=>rfl);(case hr=>first | (go_simp;done) | (go_simp;rfl));intro b4 hg M1 hbox hb;have a3:=A_ hbox;have z1:=gw hg HB;have e5:=z1;have g8:=nl hg a1;have n2:=ng hg a1;replace a6:=A_ (Kd.R_below (Kd.R_elderB (rs a6) b4 (Nat.le_of_eq hg.symm)) hb);replace b3:=A_ (Kd.R_below (Kd.R_elderB (rs b3) b4 (Nat.le_of_eq hg.symm)) hb);replace b6:=A_ (Kd.R_below (Kd.R_elderB (rs b6) b4 (Nat.le_of_eq hg.symm)) hb);replace a1:=kB a1 hb;replace HB:=bB HB hb;clear hb hbox hg;have M2:=n2.out;have M3:=g8.out;have I3:M1.cell? ⟨b4,0,none⟩ = some (.int .i64 0):=cz a3 0;have I4:M1.cell? ⟨b4,1,none⟩ = some (.int .i64 0):=cz a3 1;have I5:=blk_frozen a3.out 0;have I6:=blk_frozen a3.out 1;obtain ⟨E2,z2,K0⟩:=Kd.R_slice b6.out;subst K0) | ((with_reducible refine gate_callee (f:=48) rfl ?_);refine goesL_ (some 104) rfl rfl Try.func48 (by kernel_rfl) rfl #[.slice E2 i2.length z2] rfl (by (try simp only [List.map_toArray,List.map_cons,List.map_nil]);first | done | rfl | (simp only [List.length_drop,List.length_take];rfl)) ?_;(with_reducible refine (shares_Sum.calls k4 _ _ i2 d0 d5 h6 _ ?side1 ?side2 O6.out).mono ?_);(case side1=>refine (Kd.R_reads' (e:=23) (base:=w.heap.size) (ok:=fun k_=>(((some k_ ≠ (.slice h5 a2.length g5:Value).ownBlock ∧ some k_ ≠ (.slice y9 g9.length u0:Value).ownBlock) ∧ k_ ≠ b1) ∧ k_ ≠ b4)) (n:=i2.length) (c:=z2) ?_).2.2;exact (by (with_reducible repeat (first | apply Kd.R_alloc | apply Kd.R_drewN | apply Kd.R_drew));exact (Kd.R_mono (Kd.R_far (p:=⟨b4,1,none⟩) (Kd.R_far (p:=⟨b4,0,none⟩) (Kd.R_mono b6.out (fun k_ hk=>(⟨hk,hk.2⟩:_ ∧ k_ ≠ b4))) (fun _ hk=>hk.2) (.int .i64 d4)) (fun _ hk=>hk.2) (.int .i64 d7)) (fun _ h_=>h_.1))));(case side2=>exact (Kd.R_reads' b6.out).2.1);rintro e R2 ⟨rfl,hb⟩;refine ⟨_,rfl,?_⟩;replace a6:=A_ (Kd.R_below (by (with_reducible repeat (first | apply Kd.R_alloc | apply Kd.R_drewN | apply Kd.R_drew));exact (Kd.R_mono (Kd.R_far (p:=⟨b4,1,none⟩) (Kd.R_far (p:=⟨b4,0,none⟩) (Kd.R_mono a6.out (fun k_ hk=>(⟨hk,hk.2⟩:_ ∧ k_ ≠ b4))) (fun _ hk=>hk.2) (.int .i64 d4)) (fun _ hk=>hk.2) (.int .i64 d7)) (fun _ h_=>h_.1))) hb);replace b3:=A_ (Kd.R_below (by (with_reducible repeat (first | apply Kd.R_alloc | apply Kd.R_drewN | apply Kd.R_drew));exact (Kd.R_mono (Kd.R_far (p:=⟨b4,1,none⟩) (Kd.R_far (p:=⟨b4,0,none⟩) (Kd.R_mono b3.out (fun k_ hk=>(⟨hk,hk.2⟩:_ ∧ k_ ≠ b4))) (fun _ hk=>hk.2) (.int .i64 d4)) (fun _ hk=>hk.2) (.int .i64 d7)) (fun _ h_=>h_.1))) hb);replace b6:=A_ (Kd.R_below (by (with_reducible repeat (first | apply Kd.R_alloc | apply Kd.R_drewN | apply Kd.R_drew));exact (Kd.R_mono (Kd.R_far (p:=⟨b4,1,none⟩) (Kd.R_far (p:=⟨b4,0,none⟩) (Kd.R_mono b6.out (fun k_ hk=>(⟨hk,hk.2⟩:_ ∧ k_ ≠ b4))) (fun _ hk=>hk.2) (.int .i64 d4)) (fun _ hk=>hk.2) (.int .i64 d7)) (fun _ h_=>h_.1))) hb);replace a1:=A_ (blk_below (g:=b1) (o:=.cells #[.int .i64 b9,.int .i64 d1] 23 (0,0)) (by (with_reducible repeat (first | refine blk_drewN ?_ _ | refine blk_drew ?_ | refine blk_alloc ?_ _));refine blk_far ?_ g8.out _;(with_reducible repeat (first | refine blk_drewN ?_ _ | refine blk_drew ?_ | refine blk_alloc ?_ _));refine blk_far ?_ g8.out _;(with_reducible repeat (first | refine blk_drewN ?_ _ | refine blk_drew ?_ | refine blk_alloc ?_ _));exact a1.out) hb);replace a3:=A_ (blk_below (g:=b4) (o:=.cells #[.int .i64 d4,.int .i64 d7] 23 (0,0)) (by (with_reducible repeat (first | refine blk_drewN ?_ _ | refine blk_drew ?_ | refine blk_alloc ?_ _));refine blk_put (cs:=#[.int .i64 d4,.int .i64 0]) ?_ 1 _ rfl;(with_reducible repeat (first | refine blk_drewN ?_ _ | refine blk_drew ?_ | refine blk_alloc ?_ _));refine blk_put (cs:=#[.int .i64 0,.int .i64 0]) ?_ 0 _ rfl;(with_reducible repeat (first | refine blk_drewN ?_ _ | refine blk_drew ?_ | refine blk_alloc ?_ _));exact a3.out) hb);replace HB:=bB HB hb;(try clear hb)) | ((with_reducible refine gate_dst (N:=13) rfl ?_);(try (refine gate_guard (by rfl) ?_;dsimp only));refine box_event ?hg (N:=13) ?hd (cs:=#[.int .i64 0,.int .i64 0]) (t:=23) ?hr ?_;(case hd=>rfl);(case hg=>rfl);(case hr=>first | (go_simp;done) | (go_simp;rfl));intro b0 hg M4 hbox hb;have a4:=A_ hbox;have z3:=gw hg HB;have e6:=z3;have e2:=nl hg a1;have n3:=ng hg a1;have e3:=nl hg a3;have n4:=ng hg a3;replace a6:=A_ (Kd.R_below (Kd.R_elderB (rs a6) b0 (Nat.le_of_eq hg.symm)) hb);replace b3:=A_ (Kd.R_below (Kd.R_elderB (rs b3) b0 (Nat.le_of_eq hg.symm)) hb);replace b6:=A_ (Kd.R_below (Kd.R_elderB (rs b6) b0 (Nat.le_of_eq hg.symm)) hb);replace a1:=kB a1 hb;replace a3:=kB a3 hb;replace HB:=bB HB hb;clear hb hbox hg;have M5:=n3.out;have M6:=e2.out;have M7:=n4.out;have M8:=e3.out;have I7:M4.cell? ⟨b0,0,none⟩ = some (.int .i64 0):=cz a4 0;have I8:M4.cell? ⟨b0,1,none⟩ = some (.int .i64 0):=cz a4 1;have I9:=blk_frozen a4.out 0;have J0:=blk_frozen a4.out 1) | ((with_reducible refine gate_callee (f:=49) rfl ?_);refine goesL_ (some 109) rfl rfl Try.func49 (by kernel_rfl) rfl #[.slice h5 a2.length g5] rfl (by (try simp only [List.map_toArray,List.map_cons,List.map_nil]);first | done | rfl | (simp only [List.length_drop,List.length_take];rfl)) ?_;(with_reducible refine (shares_Sorted.calls k4 _ _ a2 a5 h9 _ ?side1 ?side2 O7.out).mono ?_);(case side1=>refine (Kd.R_reads' (e:=23) (base:=w.heap.size) (ok:=fun k_=>((((some k_ ≠ (.slice y9 g9.length u0:Value).ownBlock ∧ some k_ ≠ (.slice E2 i2.length z2:Value).ownBlock) ∧ k_ ≠ b1) ∧ k_ ≠ b4) ∧ k_ ≠ b0)) (n:=a2.length) (c:=g5) ?_).2.2;exact (by (with_reducible repeat (first | apply Kd.R_alloc | apply Kd.R_drewN | apply Kd.R_drew));exact (Kd.R_mono (Kd.R_far (p:=⟨b0,1,none⟩) (Kd.R_far (p:=⟨b0,0,none⟩) (Kd.R_mono a6.out (fun k_ hk=>(⟨hk,hk.2⟩:_ ∧ k_ ≠ b0))) (fun _ hk=>hk.2) (.int .i64 d0)) (fun _ hk=>hk.2) (.int .i64 d5)) (fun _ h_=>h_.1))));(case side2=>exact (Kd.R_reads' a6.out).2.1);rintro e R3 ⟨M9,rfl,m7,hb⟩;refine ⟨_,rfl,?_⟩;have a8:=A_ (Kd.R_lower (Kd.R_newB (Kd.R_newB (Kd.R_newB (Kd.R_new' (Kd.R_new' (Kd.R_new' m7 (Kd.R_lt (by (with_reducible repeat (first | apply Kd.R_alloc | apply Kd.R_drewN | apply Kd.R_drew));exact (Kd.R_mono (Kd.R_far (p:=⟨b0,1,none⟩) (Kd.R_far (p:=⟨b0,0,none⟩) (Kd.R_mono a6.out (fun k_ hk=>(⟨hk,hk.2⟩:_ ∧ k_ ≠ b0))) (fun _ hk=>hk.2) (.int .i64 d0)) (fun _ hk=>hk.2) (.int .i64 d5)) (fun _ h_=>h_.1))))) (Kd.R_lt (by (with_reducible repeat (first | apply Kd.R_alloc | apply Kd.R_drewN | apply Kd.R_drew));exact (Kd.R_mono (Kd.R_far (p:=⟨b0,1,none⟩) (Kd.R_far (p:=⟨b0,0,none⟩) (Kd.R_mono b3.out (fun k_ hk=>(⟨hk,hk.2⟩:_ ∧ k_ ≠ b0))) (fun _ hk=>hk.2) (.int .i64 d0)) (fun _ hk=>hk.2) (.int .i64 d5)) (fun _ h_=>h_.1))))) (Kd.R_lt (by (with_reducible repeat (first | apply Kd.R_alloc | apply Kd.R_drewN | apply Kd.R_drew));exact (Kd.R_mono (Kd.R_far (p:=⟨b0,1,none⟩) (Kd.R_far (p:=⟨b0,0,none⟩) (Kd.R_mono b6.out (fun k_ hk=>(⟨hk,hk.2⟩:_ ∧ k_ ≠ b0))) (fun _ hk=>hk.2) (.int .i64 d0)) (fun _ hk=>hk.2) (.int .i64 d5)) (fun _ h_=>h_.1))))) (g:=b1) (o:=.cells #[.int .i64 b9,.int .i64 d1] 23 (0,0)) (by (with_reducible repeat (first | refine blk_drewN ?_ _ | refine blk_drew ?_ | refine blk_alloc ?_ _));refine blk_far ?_ e2.out _;(with_reducible repeat (first | refine blk_drewN ?_ _ | refine blk_drew ?_ | refine blk_alloc ?_ _));refine blk_far ?_ e2.out _;(with_reducible repeat (first | refine blk_drewN ?_ _ | refine blk_drew ?_ | refine blk_alloc ?_ _));exact a1.out)) (g:=b4) (o:=.cells #[.int .i64 d4,.int .i64 d7] 23 (0,0)) (by (with_reducible repeat (first | refine blk_drewN ?_ _ | refine blk_drew ?_ | refine blk_alloc ?_ _));refine blk_far ?_ e3.out _;(with_reducible repeat (first | refine blk_drewN ?_ _ | refine blk_drew ?_ | refine blk_alloc ?_ _));refine blk_far ?_ e3.out _;(with_reducible repeat (first | refine blk_drewN ?_ _ | refine blk_drew ?_ | refine blk_alloc ?_ _));exact a3.out)) (g:=b0) (o:=.cells #[.int .i64 d0,.int .i64 d5] 23 (0,0)) (by (with_reducible repeat (first | refine blk_drewN ?_ _ | refine blk_drew ?_ | refine blk_alloc ?_ _));refine blk_put (cs:=#[.int .i64 d0,.int .i64 0]) ?_ 1 _ rfl;(with_reducible repeat (first | refine blk_drewN ?_ _ | refine blk_drew ?_ | refine blk_alloc ?_ _));refine blk_put (cs:=#[.int .i64 0,.int .i64 0]) ?_ 0 _ rfl;(with_reducible repeat (first | refine blk_drewN ?_ _ | refine blk_drew ?_ | refine blk_alloc ?_ _));exact a4.out)) (below_size (bl HB)));replace a6:=A_ (Kd.R_elder' (by (with_reducible repeat (first | apply Kd.R_alloc | apply Kd.R_drewN | apply Kd.R_drew));exact (Kd.R_mono (Kd.R_far (p:=⟨b0,1,none⟩) (Kd.R_far (p:=⟨b0,0,none⟩) (Kd.R_mono a6.out (fun k_ hk=>(⟨hk,hk.2⟩:_ ∧ k_ ≠ b0))) (fun _ hk=>hk.2) (.int .i64 d0)) (fun _ hk=>hk.2) (.int .i64 d5)) (fun _ h_=>h_.1))) (Kd.R_base m7) hb);replace b3:=A_ (Kd.R_elder' (by (with_reducible repeat (first | apply Kd.R_alloc | apply Kd.R_drewN | apply Kd.R_drew));exact (Kd.R_mono (Kd.R_far (p:=⟨b0,1,none⟩) (Kd.R_far (p:=⟨b0,0,none⟩) (Kd.R_mono b3.out (fun k_ hk=>(⟨hk,hk.2⟩:_ ∧ k_ ≠ b0))) (fun _ hk=>hk.2) (.int .i64 d0)) (fun _ hk=>hk.2) (.int .i64 d5)) (fun _ h_=>h_.1))) (Kd.R_base m7) hb);replace b6:=A_ (Kd.R_elder' (by (with_reducible repeat (first | apply Kd.R_alloc | apply Kd.R_drewN | apply Kd.R_drew));exact (Kd.R_mono (Kd.R_far (p:=⟨b0,1,none⟩) (Kd.R_far (p:=⟨b0,0,none⟩) (Kd.R_mono b6.out (fun k_ hk=>(⟨hk,hk.2⟩:_ ∧ k_ ≠ b0))) (fun _ hk=>hk.2) (.int .i64 d0)) (fun _ hk=>hk.2) (.int .i64 d5)) (fun _ h_=>h_.1))) (Kd.R_base m7) hb);replace a1:=A_ (blk_below (g:=b1) (o:=.cells #[.int .i64 b9,.int .i64 d1] 23 (0,0)) (by (with_reducible repeat (first | refine blk_drewN ?_ _ | refine blk_drew ?_ | refine blk_alloc ?_ _));refine blk_far ?_ e2.out _;(with_reducible repeat (first | refine blk_drewN ?_ _ | refine blk_drew ?_ | refine blk_alloc ?_ _));refine blk_far ?_ e2.out _;(with_reducible repeat (first | refine blk_drewN ?_ _ | refine blk_drew ?_ | refine blk_alloc ?_ _));exact a1.out) hb);replace a3:=A_ (blk_below (g:=b4) (o:=.cells #[.int .i64 d4,.int .i64 d7] 23 (0,0)) (by (with_reducible repeat (first | refine blk_drewN ?_ _ | refine blk_drew ?_ | refine blk_alloc ?_ _));refine blk_far ?_ e3.out _;(with_reducible repeat (first | refine blk_drewN ?_ _ | refine blk_drew ?_ | refine blk_alloc ?_ _));refine blk_far ?_ e3.out _;(with_reducible repeat (first | refine blk_drewN ?_ _ | refine blk_drew ?_ | refine blk_alloc ?_ _));exact a3.out) hb);replace a4:=A_ (blk_below (g:=b0) (o:=.cells #[.int .i64 d0,.int .i64 d5] 23 (0,0)) (by (with_reducible repeat (first | refine blk_drewN ?_ _ | refine blk_drew ?_ | refine blk_alloc ?_ _));refine blk_put (cs:=#[.int .i64 d0,.int .i64 0]) ?_ 1 _ rfl;(with_reducible repeat (first | refine blk_drewN ?_ _ | refine blk_drew ?_ | refine blk_alloc ?_ _));refine blk_put (cs:=#[.int .i64 0,.int .i64 0]) ?_ 0 _ rfl;(with_reducible repeat (first | refine blk_drewN ?_ _ | refine blk_drew ?_ | refine blk_alloc ?_ _));exact a4.out) hb);replace HB:=bB HB hb;(try clear hb);(try clear m7);obtain ⟨q3,q4,K1⟩:=Kd.R_slice a8.out;subst K1) | ((with_reducible refine gate_callee (f:=49) rfl ?_);refine goesL_ (some 114) rfl rfl Try.func49 (by kernel_rfl) rfl #[.slice q3 a5.length q4] rfl (by (try simp only [List.map_toArray,List.map_cons,List.map_nil]);first | done | rfl | (simp only [List.length_drop,List.length_take];rfl)) ?_;(with_reducible refine (shares_Sorted.calls k4 _ _ a5 i8 i9 _ ?side1 ?side2 O8.out).mono ?_);(case side1=>repeat (first | exact (Kd.R_reads' a8.out).2.2 | (with_reducible refine Kd.C_alloc ?_ _) | (with_reducible refine Kd.C_drewN ?_ _) | (with_reducible refine Kd.C_drew ?_)));(case side2=>exact (Kd.R_reads' a8.out).2.1);rintro e u1 ⟨N0,rfl,m7,hb⟩;refine ⟨_,rfl,?_⟩;have b2:=A_ (Kd.R_lower (Kd.R_newB (Kd.R_newB (Kd.R_newB (Kd.R_new' (Kd.R_new' (Kd.R_new' (Kd.R_new' m7 (Kd.R_lt (rs a6))) (Kd.R_lt (rs b3))) (Kd.R_lt (rs b6))) (Kd.R_lt (rs a8))) (g:=b1) (o:=.cells #[.int .i64 b9,.int .i64 d1] 23 (0,0)) (kb a1)) (g:=b4) (o:=.cells #[.int .i64 d4,.int .i64 d7] 23 (0,0)) (kb a3)) (g:=b0) (o:=.cells #[.int .i64 d0,.int .i64 d5] 23 (0,0)) (kb a4)) (below_size (bl HB)));replace a6:=A_ (Kd.R_elder' (rs a6) (Kd.R_base m7) hb);replace b3:=A_ (Kd.R_elder' (rs b3) (Kd.R_base m7) hb);replace b6:=A_ (Kd.R_elder' (rs b6) (Kd.R_base m7) hb);replace a8:=A_ (Kd.R_elder' (rs a8) (Kd.R_base m7) hb);replace a1:=kB a1 hb;replace a3:=kB a3 hb;replace a4:=kB a4 hb;replace HB:=bB HB hb;(try clear hb);(try clear m7)))
         (try simp only [Act.put,List.setIfInBounds_toArray,List.set_cons_zero,List.set_cons_succ])
         go_cut [157] (fun K2 wc=>∃ (kq:Nat) (i3:Bool),K2 = .bool i3 ∧ Aside0 (numnahlaw07_SharesSums.j4 kq a2 a5 i3 = some r) ∧ Aside0 (kq ≤ k4) ∧ Aside0 (Kd.R k23 23 wc w.heap.size (fun k_=>some k_ ≠ ((.slice q3 a5.length q4):Value).ownBlock ∧ k_ ≠ b1 ∧ k_ ≠ b4 ∧ k_ ≠ b0) (.slice h5 a2.length g5) a2) ∧ Aside0 (Kd.R k23 23 wc w.heap.size (fun k_=>some k_ ≠ ((.slice h5 a2.length g5):Value).ownBlock ∧ k_ ≠ b1 ∧ k_ ≠ b4 ∧ k_ ≠ b0) (.slice q3 a5.length q4) a5) ∧ Aside0 (wc.heap[b1]? = some (.cells #[.int .i64 b9,.int .i64 d1] 23 (0,0))) ∧ Aside0 (wc.heap[b4]? = some (.cells #[.int .i64 d4,.int .i64 d7] 23 (0,0))) ∧ Aside0 (wc.heap[b0]? = some (.cells #[.int .i64 d0,.int .i64 d5] 23 (0,0))) ∧ Aside0 (Below w.heap.size w wc))
         case first=>as_aux_lemma =>
          have H:=y7.out
          clear y7
          by_cases u2:g7 = 0
          case neg =>
           rw [if_neg u2] at H
           have j5:(g7 == 0) = false:=beq_eq_false_iff_ne.mpr u2
           have r8:(g7 != 0) = true:=bne_iff_ne.mpr u2
           (first | rw [j5] | (simp only [i64_w,i32_w];rw [j5]) | skip)
           have H':=A_ H
           clear H
           try go_wp2
           replace a6:=A_ (Kd.R_drew a6.out)
           replace b3:=A_ (Kd.R_drew b3.out)
           replace b6:=A_ (Kd.R_drew b6.out)
           replace a8:=A_ (Kd.R_drew a8.out)
           replace b2:=A_ (Kd.R_drew b2.out)
           replace a1:=A_ (blk_drew a1.out)
           replace a3:=A_ (blk_drew a3.out)
           replace a4:=A_ (blk_drew a4.out)
           replace HB:=A_ (below_drew1 HB.out)
           refine start_ (n:=41) (S:=fun w'=>True) (ds:=[]) (ba 41 0) (by kernel_rfl) rfl rfl trivial (fun hHeld=>?_);refine with_tabW numnahlaw07_SharesSums.tab20 numnahlaw07_SharesSums.bits20 (fun HT_ HW_=>?_)
           generalize u1.drew = R4 at a6 b3 b6 a8 b2 a1 a3 a4 HB hHeld ⊢
           refine pq 0 117 1 HT_ ?_
           refine pq 1 118 3 HT_ ?_
           refine pq 2 119 7 HT_ ?_
           refine pu 3 120 15 HT_ ?_
           refine pu 4 121 31 HT_ ?_
           refine pq 5 122 63 HT_ ?_
           refine pq 6 123 127 HT_ ?_
           refine pu 7 124 255 HT_ ?_
           refine pu 8 125 511 HT_ ?_
           refine pq 9 126 1023 HT_ ?_
           refine pq 10 127 2047 HT_ ?_
           refine pu 11 128 4095 HT_ ?_
           refine pu 12 129 8191 HT_ ?_
           refine pq 13 130 16383 HT_ ?_
           refine pq 14 131 32767 HT_ ?_
           refine pu 15 132 65535 HT_ ?_
           refine pu 16 133 131071 HT_ ?_
           refine pq 17 134 262143 HT_ ?_
           refine pq 18 135 524287 HT_ ?_
           refine pu 19 136 1048575 HT_ ?_
           refine pu 20 137 2097151 HT_ ?_
           refine pu 21 138 4194303 HT_ ?_
           refine pq 22 139 8388607 HT_ ?_
           refine pq 23 140 16777215 HT_ ?_
           refine pu 24 141 33554431 HT_ ?_
           refine pu 25 142 67108863 HT_ ?_
           refine pu 26 143 134217727 HT_ ?_
           refine pq 27 144 268435455 HT_ ?_
           refine pq 28 145 536870911 HT_ ?_
           refine pu 29 146 1073741823 HT_ ?_
           refine pu 30 147 2147483647 HT_ ?_
           refine pu 31 148 4294967295 HT_ ?_
           refine pu 32 149 8589934591 HT_ ?_
           refine pq 33 150 17179869183 HT_ ?_
           refine pq 34 151 34359738367 HT_ ?_
           refine pu 35 152 68719476735 HT_ ?_
           refine pu 36 153 137438953471 HT_ ?_
           refine pu 37 154 274877906943 HT_ ?_
           refine pu 38 155 549755813887 HT_ ?_
           refine pu 39 156 1099511627775 HT_ ?_
           refine pq 40 157 2199023255551 HT_ ?_
           refine done_ (done_of HT_.out (by kernel_rfl)) ?_
           try go_wp2
           go_meet
           case rel=>exact ⟨_,(true),(by first | rfl | (simp;done) | (simp [*];done)),H',⟨by have:=l9.out;have:=m2.out;have:=q2.out;have:=q9.out;first | omega | exact Nat.le_refl _⟩,⟨by (with_reducible repeat (first | apply Kd.R_alloc | apply Kd.R_drewN | apply Kd.R_drew));exact Kd.R_mono a6.out (fun _ hk=>⟨hk.1.2,⟨hk.1.1.1.1.2,⟨hk.1.1.1.2,hk.1.1.2⟩⟩⟩)⟩,⟨by (with_reducible repeat (first | apply Kd.R_alloc | apply Kd.R_drewN | apply Kd.R_drew));exact Kd.R_mono a8.out (fun _ hk=>⟨hk.1.1.1.1.1.1.2,⟨hk.1.1.1.2,⟨hk.1.1.2,hk.1.2⟩⟩⟩)⟩,⟨by (with_reducible repeat (first | refine blk_drewN ?_ _ | refine blk_drew ?_ | refine blk_alloc ?_ _));exact a1.out⟩,⟨by (with_reducible repeat (first | refine blk_drewN ?_ _ | refine blk_drew ?_ | refine blk_alloc ?_ _));exact a3.out⟩,⟨by (with_reducible repeat (first | refine blk_drewN ?_ _ | refine blk_drew ?_ | refine blk_alloc ?_ _));exact a4.out⟩,⟨by repeat (first | (with_reducible first | exact HB.out | apply below_alloc | apply pw_below_drewN | apply below_drew1 | refine below_set ?_ e4.out | refine below_set ?_ e5.out | refine below_set ?_ e6.out) | exact HB.out)⟩⟩
          rw [if_pos u2] at H
          have j5:(g7 == 0) = true:=beq_iff_eq.mpr u2
          have r8:(g7 != 0) = false:=bne_eq_false_iff_eq.mpr u2
          clear u2
          (first | rw [j5] | (simp only [i64_w,i32_w];rw [j5]) | skip)
          by_cases u5:h2 = 0
          case neg =>
           rw [if_neg u5] at H
           have r9:(h2 == 0) = false:=beq_eq_false_iff_ne.mpr u5
           have s0:(h2 != 0) = true:=bne_iff_ne.mpr u5
           have H':=A_ H
           clear H
           try go_wp2
           replace a6:=A_ (Kd.R_drew a6.out)
           replace b3:=A_ (Kd.R_drew b3.out)
           replace b6:=A_ (Kd.R_drew b6.out)
           replace a8:=A_ (Kd.R_drew a8.out)
           replace b2:=A_ (Kd.R_drew b2.out)
           replace a1:=A_ (blk_drew a1.out)
           replace a3:=A_ (blk_drew a3.out)
           replace a4:=A_ (blk_drew a4.out)
           replace HB:=A_ (below_drew1 HB.out)
           refine start_ (n:=41) (S:=fun w'=>True) (ds:=[]) (ba 41 0) (by kernel_rfl) rfl rfl trivial (fun hHeld=>?_);refine with_tabW numnahlaw07_SharesSums.tab20 numnahlaw07_SharesSums.bits20 (fun HT_ HW_=>?_)
           generalize u1.drew = R5 at a6 b3 b6 a8 b2 a1 a3 a4 HB hHeld ⊢
           refine pq 0 117 1 HT_ ?_
           refine pq 1 118 3 HT_ ?_
           refine pq 2 119 7 HT_ ?_
           refine pq 3 120 15 HT_ ?_
           refine pq 4 121 31 HT_ ?_
           refine pq 5 122 63 HT_ ?_
           refine pq 6 123 127 HT_ ?_
           refine pu 7 124 255 HT_ ?_
           refine pu 8 125 511 HT_ ?_
           refine pq 9 126 1023 HT_ ?_
           refine pq 10 127 2047 HT_ ?_
           refine pu 11 128 4095 HT_ ?_
           refine pu 12 129 8191 HT_ ?_
           refine pq 13 130 16383 HT_ ?_
           refine pq 14 131 32767 HT_ ?_
           refine pu 15 132 65535 HT_ ?_
           refine pu 16 133 131071 HT_ ?_
           refine pq 17 134 262143 HT_ ?_
           refine pq 18 135 524287 HT_ ?_
           refine pu 19 136 1048575 HT_ ?_
           refine pu 20 137 2097151 HT_ ?_
           refine pu 21 138 4194303 HT_ ?_
           refine pq 22 139 8388607 HT_ ?_
           refine pq 23 140 16777215 HT_ ?_
           refine pu 24 141 33554431 HT_ ?_
           refine pu 25 142 67108863 HT_ ?_
           refine pu 26 143 134217727 HT_ ?_
           refine pq 27 144 268435455 HT_ ?_
           refine pq 28 145 536870911 HT_ ?_
           refine pu 29 146 1073741823 HT_ ?_
           refine pu 30 147 2147483647 HT_ ?_
           refine pu 31 148 4294967295 HT_ ?_
           refine pu 32 149 8589934591 HT_ ?_
           refine pq 33 150 17179869183 HT_ ?_
           refine pq 34 151 34359738367 HT_ ?_
           refine pu 35 152 68719476735 HT_ ?_
           refine pu 36 153 137438953471 HT_ ?_
           refine pu 37 154 274877906943 HT_ ?_
           refine pu 38 155 549755813887 HT_ ?_
           refine pu 39 156 1099511627775 HT_ ?_
           refine pq 40 157 2199023255551 HT_ ?_
           refine done_ (done_of HT_.out (by kernel_rfl)) ?_
           try go_wp2
           go_meet
           case rel=>exact ⟨_,(true),(by first | rfl | (simp;done) | (simp [*];done)),H',⟨by have:=l9.out;have:=m2.out;have:=q2.out;have:=q9.out;first | omega | exact Nat.le_refl _⟩,⟨by (with_reducible repeat (first | apply Kd.R_alloc | apply Kd.R_drewN | apply Kd.R_drew));exact Kd.R_mono a6.out (fun _ hk=>⟨hk.1.2,⟨hk.1.1.1.1.2,⟨hk.1.1.1.2,hk.1.1.2⟩⟩⟩)⟩,⟨by (with_reducible repeat (first | apply Kd.R_alloc | apply Kd.R_drewN | apply Kd.R_drew));exact Kd.R_mono a8.out (fun _ hk=>⟨hk.1.1.1.1.1.1.2,⟨hk.1.1.1.2,⟨hk.1.1.2,hk.1.2⟩⟩⟩)⟩,⟨by (with_reducible repeat (first | refine blk_drewN ?_ _ | refine blk_drew ?_ | refine blk_alloc ?_ _));exact a1.out⟩,⟨by (with_reducible repeat (first | refine blk_drewN ?_ _ | refine blk_drew ?_ | refine blk_alloc ?_ _));exact a3.out⟩,⟨by (with_reducible repeat (first | refine blk_drewN ?_ _ | refine blk_drew ?_ | refine blk_alloc ?_ _));exact a4.out⟩,⟨by repeat (first | (with_reducible first | exact HB.out | apply below_alloc | apply pw_below_drewN | apply below_drew1 | refine below_set ?_ e4.out | refine below_set ?_ e5.out | refine below_set ?_ e6.out) | exact HB.out)⟩⟩
          rw [if_pos u5] at H
          have r9:(h2 == 0) = true:=beq_iff_eq.mpr u5
          have s0:(h2 != 0) = false:=bne_eq_false_iff_eq.mpr u5
          clear u5
          by_cases z4:h6 = 0
          case neg =>
           rw [if_neg z4] at H
           have E3:(h6 == 0) = false:=beq_eq_false_iff_ne.mpr z4
           have E4:(h6 != 0) = true:=bne_iff_ne.mpr z4
           have H':=A_ H
           clear H
           try go_wp2
           replace a6:=A_ (Kd.R_drew a6.out)
           replace b3:=A_ (Kd.R_drew b3.out)
           replace b6:=A_ (Kd.R_drew b6.out)
           replace a8:=A_ (Kd.R_drew a8.out)
           replace b2:=A_ (Kd.R_drew b2.out)
           replace a1:=A_ (blk_drew a1.out)
           replace a3:=A_ (blk_drew a3.out)
           replace a4:=A_ (blk_drew a4.out)
           replace HB:=A_ (below_drew1 HB.out)
           refine start_ (n:=41) (S:=fun w'=>True) (ds:=[]) (ba 41 0) (by kernel_rfl) rfl rfl trivial (fun hHeld=>?_);refine with_tabW numnahlaw07_SharesSums.tab20 numnahlaw07_SharesSums.bits20 (fun HT_ HW_=>?_)
           generalize u1.drew = R6 at a6 b3 b6 a8 b2 a1 a3 a4 HB hHeld ⊢
           refine pq 0 117 1 HT_ ?_
           refine pq 1 118 3 HT_ ?_
           refine pq 2 119 7 HT_ ?_
           refine pq 3 120 15 HT_ ?_
           refine pq 4 121 31 HT_ ?_
           refine pq 5 122 63 HT_ ?_
           refine pq 6 123 127 HT_ ?_
           refine pq 7 124 255 HT_ ?_
           refine pq 8 125 511 HT_ ?_
           refine pq 9 126 1023 HT_ ?_
           refine pq 10 127 2047 HT_ ?_
           refine pu 11 128 4095 HT_ ?_
           refine pu 12 129 8191 HT_ ?_
           refine pq 13 130 16383 HT_ ?_
           refine pq 14 131 32767 HT_ ?_
           refine pu 15 132 65535 HT_ ?_
           refine pu 16 133 131071 HT_ ?_
           refine pq 17 134 262143 HT_ ?_
           refine pq 18 135 524287 HT_ ?_
           refine pu 19 136 1048575 HT_ ?_
           refine pu 20 137 2097151 HT_ ?_
           refine pu 21 138 4194303 HT_ ?_
           refine pq 22 139 8388607 HT_ ?_
           refine pq 23 140 16777215 HT_ ?_
           refine pu 24 141 33554431 HT_ ?_
           refine pu 25 142 67108863 HT_ ?_
           refine pu 26 143 134217727 HT_ ?_
           refine pq 27 144 268435455 HT_ ?_
           refine pq 28 145 536870911 HT_ ?_
           refine pu 29 146 1073741823 HT_ ?_
           refine pu 30 147 2147483647 HT_ ?_
           refine pu 31 148 4294967295 HT_ ?_
           refine pu 32 149 8589934591 HT_ ?_
           refine pq 33 150 17179869183 HT_ ?_
           refine pq 34 151 34359738367 HT_ ?_
           refine pu 35 152 68719476735 HT_ ?_
           refine pu 36 153 137438953471 HT_ ?_
           refine pu 37 154 274877906943 HT_ ?_
           refine pu 38 155 549755813887 HT_ ?_
           refine pu 39 156 1099511627775 HT_ ?_
           refine pq 40 157 2199023255551 HT_ ?_
           refine done_ (done_of HT_.out (by kernel_rfl)) ?_
           try go_wp2
           go_meet
           case rel=>exact ⟨_,(true),(by first | rfl | (simp;done) | (simp [*];done)),H',⟨by have:=l9.out;have:=m2.out;have:=q2.out;have:=q9.out;first | omega | exact Nat.le_refl _⟩,⟨by (with_reducible repeat (first | apply Kd.R_alloc | apply Kd.R_drewN | apply Kd.R_drew));exact Kd.R_mono a6.out (fun _ hk=>⟨hk.1.2,⟨hk.1.1.1.1.2,⟨hk.1.1.1.2,hk.1.1.2⟩⟩⟩)⟩,⟨by (with_reducible repeat (first | apply Kd.R_alloc | apply Kd.R_drewN | apply Kd.R_drew));exact Kd.R_mono a8.out (fun _ hk=>⟨hk.1.1.1.1.1.1.2,⟨hk.1.1.1.2,⟨hk.1.1.2,hk.1.2⟩⟩⟩)⟩,⟨by (with_reducible repeat (first | refine blk_drewN ?_ _ | refine blk_drew ?_ | refine blk_alloc ?_ _));exact a1.out⟩,⟨by (with_reducible repeat (first | refine blk_drewN ?_ _ | refine blk_drew ?_ | refine blk_alloc ?_ _));exact a3.out⟩,⟨by (with_reducible repeat (first | refine blk_drewN ?_ _ | refine blk_drew ?_ | refine blk_alloc ?_ _));exact a4.out⟩,⟨by repeat (first | (with_reducible first | exact HB.out | apply below_alloc | apply pw_below_drewN | apply below_drew1 | refine below_set ?_ e4.out | refine below_set ?_ e5.out | refine below_set ?_ e6.out) | exact HB.out)⟩⟩
          rw [if_pos z4] at H
          have E3:(h6 == 0) = true:=beq_iff_eq.mpr z4
          have E4:(h6 != 0) = false:=bne_eq_false_iff_eq.mpr z4
          clear z4
          by_cases z5:h9 = 0
          case neg =>
           rw [if_neg z5] at H
           have E5:(h9 == 0) = false:=beq_eq_false_iff_ne.mpr z5
           have E6:(h9 != 0) = true:=bne_iff_ne.mpr z5
           have H':=A_ H
           clear H
           try go_wp2
           replace a6:=A_ (Kd.R_drew a6.out)
           replace b3:=A_ (Kd.R_drew b3.out)
           replace b6:=A_ (Kd.R_drew b6.out)
           replace a8:=A_ (Kd.R_drew a8.out)
           replace b2:=A_ (Kd.R_drew b2.out)
           replace a1:=A_ (blk_drew a1.out)
           replace a3:=A_ (blk_drew a3.out)
           replace a4:=A_ (blk_drew a4.out)
           replace HB:=A_ (below_drew1 HB.out)
           refine start_ (n:=41) (S:=fun w'=>True) (ds:=[]) (ba 41 0) (by kernel_rfl) rfl rfl trivial (fun hHeld=>?_);refine with_tabW numnahlaw07_SharesSums.tab20 numnahlaw07_SharesSums.bits20 (fun HT_ HW_=>?_)
           generalize u1.drew = R7 at a6 b3 b6 a8 b2 a1 a3 a4 HB hHeld ⊢
           refine pq 0 117 1 HT_ ?_
           refine pq 1 118 3 HT_ ?_
           refine pq 2 119 7 HT_ ?_
           refine pq 3 120 15 HT_ ?_
           refine pq 4 121 31 HT_ ?_
           refine pq 5 122 63 HT_ ?_
           refine pq 6 123 127 HT_ ?_
           refine pq 7 124 255 HT_ ?_
           refine pq 8 125 511 HT_ ?_
           refine pq 9 126 1023 HT_ ?_
           refine pq 10 127 2047 HT_ ?_
           refine pq 11 128 4095 HT_ ?_
           refine pq 12 129 8191 HT_ ?_
           refine pq 13 130 16383 HT_ ?_
           refine pq 14 131 32767 HT_ ?_
           refine pu 15 132 65535 HT_ ?_
           refine pu 16 133 131071 HT_ ?_
           refine pq 17 134 262143 HT_ ?_
           refine pq 18 135 524287 HT_ ?_
           refine pu 19 136 1048575 HT_ ?_
           refine pu 20 137 2097151 HT_ ?_
           refine pu 21 138 4194303 HT_ ?_
           refine pq 22 139 8388607 HT_ ?_
           refine pq 23 140 16777215 HT_ ?_
           refine pu 24 141 33554431 HT_ ?_
           refine pu 25 142 67108863 HT_ ?_
           refine pu 26 143 134217727 HT_ ?_
           refine pq 27 144 268435455 HT_ ?_
           refine pq 28 145 536870911 HT_ ?_
           refine pu 29 146 1073741823 HT_ ?_
           refine pu 30 147 2147483647 HT_ ?_
           refine pu 31 148 4294967295 HT_ ?_
           refine pu 32 149 8589934591 HT_ ?_
           refine pq 33 150 17179869183 HT_ ?_
           refine pq 34 151 34359738367 HT_ ?_
           refine pu 35 152 68719476735 HT_ ?_
           refine pu 36 153 137438953471 HT_ ?_
           refine pu 37 154 274877906943 HT_ ?_
           refine pu 38 155 549755813887 HT_ ?_
           refine pu 39 156 1099511627775 HT_ ?_
           refine pq 40 157 2199023255551 HT_ ?_
           refine done_ (done_of HT_.out (by kernel_rfl)) ?_
           try go_wp2
           go_meet
           case rel=>exact ⟨_,(true),(by first | rfl | (simp;done) | (simp [*];done)),H',⟨by have:=l9.out;have:=m2.out;have:=q2.out;have:=q9.out;first | omega | exact Nat.le_refl _⟩,⟨by (with_reducible repeat (first | apply Kd.R_alloc | apply Kd.R_drewN | apply Kd.R_drew));exact Kd.R_mono a6.out (fun _ hk=>⟨hk.1.2,⟨hk.1.1.1.1.2,⟨hk.1.1.1.2,hk.1.1.2⟩⟩⟩)⟩,⟨by (with_reducible repeat (first | apply Kd.R_alloc | apply Kd.R_drewN | apply Kd.R_drew));exact Kd.R_mono a8.out (fun _ hk=>⟨hk.1.1.1.1.1.1.2,⟨hk.1.1.1.2,⟨hk.1.1.2,hk.1.2⟩⟩⟩)⟩,⟨by (with_reducible repeat (first | refine blk_drewN ?_ _ | refine blk_drew ?_ | refine blk_alloc ?_ _));exact a1.out⟩,⟨by (with_reducible repeat (first | refine blk_drewN ?_ _ | refine blk_drew ?_ | refine blk_alloc ?_ _));exact a3.out⟩,⟨by (with_reducible repeat (first | refine blk_drewN ?_ _ | refine blk_drew ?_ | refine blk_alloc ?_ _));exact a4.out⟩,⟨by repeat (first | (with_reducible first | exact HB.out | apply below_alloc | apply pw_below_drewN | apply below_drew1 | refine below_set ?_ e4.out | refine below_set ?_ e5.out | refine below_set ?_ e6.out) | exact HB.out)⟩⟩
          rw [if_pos z5] at H
          have E5:(h9 == 0) = true:=beq_iff_eq.mpr z5
          have E6:(h9 != 0) = false:=bne_eq_false_iff_eq.mpr z5
          clear z5
          by_cases z6:i9 = 0
          case neg =>
           rw [if_neg z6] at H
           have E7:(i9 == 0) = false:=beq_eq_false_iff_ne.mpr z6
           have E8:(i9 != 0) = true:=bne_iff_ne.mpr z6
           have H':=A_ H
           clear H
           try go_wp2
           replace a6:=A_ (Kd.R_drew a6.out)
           replace b3:=A_ (Kd.R_drew b3.out)
           replace b6:=A_ (Kd.R_drew b6.out)
           replace a8:=A_ (Kd.R_drew a8.out)
           replace b2:=A_ (Kd.R_drew b2.out)
           replace a1:=A_ (blk_drew a1.out)
           replace a3:=A_ (blk_drew a3.out)
           replace a4:=A_ (blk_drew a4.out)
           replace HB:=A_ (below_drew1 HB.out)
           refine start_ (n:=41) (S:=fun w'=>True) (ds:=[]) (ba 41 0) (by kernel_rfl) rfl rfl trivial (fun hHeld=>?_);refine with_tabW numnahlaw07_SharesSums.tab20 numnahlaw07_SharesSums.bits20 (fun HT_ HW_=>?_)
           generalize u1.drew = R8 at a6 b3 b6 a8 b2 a1 a3 a4 HB hHeld ⊢
           refine pq 0 117 1 HT_ ?_
           refine pq 1 118 3 HT_ ?_
           refine pq 2 119 7 HT_ ?_
           refine pq 3 120 15 HT_ ?_
           refine pq 4 121 31 HT_ ?_
           refine pq 5 122 63 HT_ ?_
           refine pq 6 123 127 HT_ ?_
           refine pq 7 124 255 HT_ ?_
           refine pq 8 125 511 HT_ ?_
           refine pq 9 126 1023 HT_ ?_
           refine pq 10 127 2047 HT_ ?_
           refine pq 11 128 4095 HT_ ?_
           refine pq 12 129 8191 HT_ ?_
           refine pq 13 130 16383 HT_ ?_
           refine pq 14 131 32767 HT_ ?_
           refine pq 15 132 65535 HT_ ?_
           refine pq 16 133 131071 HT_ ?_
           refine pq 17 134 262143 HT_ ?_
           refine pq 18 135 524287 HT_ ?_
           refine pu 19 136 1048575 HT_ ?_
           refine pu 20 137 2097151 HT_ ?_
           refine pu 21 138 4194303 HT_ ?_
           refine pq 22 139 8388607 HT_ ?_
           refine pq 23 140 16777215 HT_ ?_
           refine pu 24 141 33554431 HT_ ?_
           refine pu 25 142 67108863 HT_ ?_
           refine pu 26 143 134217727 HT_ ?_
           refine pq 27 144 268435455 HT_ ?_
           refine pq 28 145 536870911 HT_ ?_
           refine pu 29 146 1073741823 HT_ ?_
           refine pu 30 147 2147483647 HT_ ?_
           refine pu 31 148 4294967295 HT_ ?_
           refine pu 32 149 8589934591 HT_ ?_
           refine pq 33 150 17179869183 HT_ ?_
           refine pq 34 151 34359738367 HT_ ?_
           refine pu 35 152 68719476735 HT_ ?_
           refine pu 36 153 137438953471 HT_ ?_
           refine pu 37 154 274877906943 HT_ ?_
           refine pu 38 155 549755813887 HT_ ?_
           refine pu 39 156 1099511627775 HT_ ?_
           refine pq 40 157 2199023255551 HT_ ?_
           refine done_ (done_of HT_.out (by kernel_rfl)) ?_
           try go_wp2
           go_meet
           case rel=>exact ⟨_,(true),(by first | rfl | (simp;done) | (simp [*];done)),H',⟨by have:=l9.out;have:=m2.out;have:=q2.out;have:=q9.out;first | omega | exact Nat.le_refl _⟩,⟨by (with_reducible repeat (first | apply Kd.R_alloc | apply Kd.R_drewN | apply Kd.R_drew));exact Kd.R_mono a6.out (fun _ hk=>⟨hk.1.2,⟨hk.1.1.1.1.2,⟨hk.1.1.1.2,hk.1.1.2⟩⟩⟩)⟩,⟨by (with_reducible repeat (first | apply Kd.R_alloc | apply Kd.R_drewN | apply Kd.R_drew));exact Kd.R_mono a8.out (fun _ hk=>⟨hk.1.1.1.1.1.1.2,⟨hk.1.1.1.2,⟨hk.1.1.2,hk.1.2⟩⟩⟩)⟩,⟨by (with_reducible repeat (first | refine blk_drewN ?_ _ | refine blk_drew ?_ | refine blk_alloc ?_ _));exact a1.out⟩,⟨by (with_reducible repeat (first | refine blk_drewN ?_ _ | refine blk_drew ?_ | refine blk_alloc ?_ _));exact a3.out⟩,⟨by (with_reducible repeat (first | refine blk_drewN ?_ _ | refine blk_drew ?_ | refine blk_alloc ?_ _));exact a4.out⟩,⟨by repeat (first | (with_reducible first | exact HB.out | apply below_alloc | apply pw_below_drewN | apply below_drew1 | refine below_set ?_ e4.out | refine below_set ?_ e5.out | refine below_set ?_ e6.out) | exact HB.out)⟩⟩
          rw [if_pos z6] at H
          have E7:(i9 == 0) = true:=beq_iff_eq.mpr z6
          have E8:(i9 != 0) = false:=bne_eq_false_iff_eq.mpr z6
          clear z6
          by_cases C0:(!(b9 == d4) || (!(d1 == d7))) = true
          ·rw [if_pos C0] at H
           have E9:(!(b9 == d4) || (!(d1 == d7))) = true:=C0
           clear C0
           have H':=A_ H
           clear H
           try go_wp2
           replace a6:=A_ (Kd.R_drew a6.out)
           replace b3:=A_ (Kd.R_drew b3.out)
           replace b6:=A_ (Kd.R_drew b6.out)
           replace a8:=A_ (Kd.R_drew a8.out)
           replace b2:=A_ (Kd.R_drew b2.out)
           replace a1:=A_ (blk_drew a1.out)
           replace a3:=A_ (blk_drew a3.out)
           replace a4:=A_ (blk_drew a4.out)
           replace HB:=A_ (below_drew1 HB.out)
           refine start_ (n:=41) (S:=fun w'=>w'.cell? ⟨b1,0,none⟩ = some (.int .i64 b9) ∧ w'.cell? ⟨b1,1,none⟩ = some (.int .i64 d1) ∧ w'.cell? ⟨b4,0,none⟩ = some (.int .i64 d4) ∧ w'.cell? ⟨b4,1,none⟩ = some (.int .i64 d7)) (ds:=[]) (ba 41 0) (by kernel_rfl) rfl rfl ⟨cz a1 0,cz a1 1,cz a3 0,cz a3 1⟩ (fun hHeld=>?_);refine with_tabW numnahlaw07_SharesSums.tab20 numnahlaw07_SharesSums.bits20 (fun HT_ HW_=>?_)
           generalize u1.drew = R9 at a6 b3 b6 a8 b2 a1 a3 a4 HB hHeld ⊢
           refine pq 0 117 1 HT_ ?_
           refine pq 1 118 3 HT_ ?_
           refine pq 2 119 7 HT_ ?_
           refine pq 3 120 15 HT_ ?_
           refine pq 4 121 31 HT_ ?_
           refine pq 5 122 63 HT_ ?_
           refine pq 6 123 127 HT_ ?_
           refine pq 7 124 255 HT_ ?_
           refine pq 8 125 511 HT_ ?_
           refine pq 9 126 1023 HT_ ?_
           refine pq 10 127 2047 HT_ ?_
           refine pq 11 128 4095 HT_ ?_
           refine pq 12 129 8191 HT_ ?_
           refine pq 13 130 16383 HT_ ?_
           refine pq 14 131 32767 HT_ ?_
           refine pq 15 132 65535 HT_ ?_
           refine pq 16 133 131071 HT_ ?_
           refine pq 17 134 262143 HT_ ?_
           refine pq 18 135 524287 HT_ ?_
           refine tq 19 136 1048575 HT_ HW_ hHeld ?_
           refine tq 20 137 2097151 HT_ HW_ hHeld ?_
           refine pq 21 138 4194303 HT_ ?_
           refine pq 22 139 8388607 HT_ ?_
           refine pq 23 140 16777215 HT_ ?_
           refine pu 24 141 33554431 HT_ ?_
           refine pu 25 142 67108863 HT_ ?_
           refine pu 26 143 134217727 HT_ ?_
           refine pq 27 144 268435455 HT_ ?_
           refine pq 28 145 536870911 HT_ ?_
           refine pu 29 146 1073741823 HT_ ?_
           refine pu 30 147 2147483647 HT_ ?_
           refine pu 31 148 4294967295 HT_ ?_
           refine pu 32 149 8589934591 HT_ ?_
           refine pq 33 150 17179869183 HT_ ?_
           refine pq 34 151 34359738367 HT_ ?_
           refine pu 35 152 68719476735 HT_ ?_
           refine pu 36 153 137438953471 HT_ ?_
           refine pu 37 154 274877906943 HT_ ?_
           refine pu 38 155 549755813887 HT_ ?_
           refine pu 39 156 1099511627775 HT_ ?_
           refine pq 40 157 2199023255551 HT_ ?_
           refine done_ (done_of HT_.out (by kernel_rfl)) ?_
           try go_wp2
           go_meet
           case rel=>exact ⟨_,(true),(by first | rfl | (simp;done) | (simp [*];done)),H',⟨by have:=l9.out;have:=m2.out;have:=q2.out;have:=q9.out;first | omega | exact Nat.le_refl _⟩,⟨by (with_reducible repeat (first | apply Kd.R_alloc | apply Kd.R_drewN | apply Kd.R_drew));exact Kd.R_mono a6.out (fun _ hk=>⟨hk.1.2,⟨hk.1.1.1.1.2,⟨hk.1.1.1.2,hk.1.1.2⟩⟩⟩)⟩,⟨by (with_reducible repeat (first | apply Kd.R_alloc | apply Kd.R_drewN | apply Kd.R_drew));exact Kd.R_mono a8.out (fun _ hk=>⟨hk.1.1.1.1.1.1.2,⟨hk.1.1.1.2,⟨hk.1.1.2,hk.1.2⟩⟩⟩)⟩,⟨by (with_reducible repeat (first | refine blk_drewN ?_ _ | refine blk_drew ?_ | refine blk_alloc ?_ _));exact a1.out⟩,⟨by (with_reducible repeat (first | refine blk_drewN ?_ _ | refine blk_drew ?_ | refine blk_alloc ?_ _));exact a3.out⟩,⟨by (with_reducible repeat (first | refine blk_drewN ?_ _ | refine blk_drew ?_ | refine blk_alloc ?_ _));exact a4.out⟩,⟨by repeat (first | (with_reducible first | exact HB.out | apply below_alloc | apply pw_below_drewN | apply below_drew1 | refine below_set ?_ e4.out | refine below_set ?_ e5.out | refine below_set ?_ e6.out) | exact HB.out)⟩⟩
          rw [if_neg C0] at H
          have E9:(!(b9 == d4) || (!(d1 == d7))) = false:=by simpa using C0
          clear C0
          replace H:=Option.bind_eq_some_iff.mp H
          obtain ⟨⟨j7,j8⟩,A610,H⟩:=H
          replace H:(if (!(d0 == j7) || (!(d5 == j8))) = true then (numnahlaw07_SharesSums.j4 k4 a2 a5 true) else ((numnahref07_Same.f k4 a5 i8).bind fun e7=>(if e7 = true then (numnahlaw07_SharesSums.j4 k4 a2 a5 ((a5.length:Int) != (a2.length:Int))) else (numnahlaw07_SharesSums.j4 k4 a2 a5 true)))) = some r:=H
          have K3:=A_ A610
          clear A610
          by_cases C1:(!(d0 == j7) || (!(d5 == j8))) = true
          ·rw [if_pos C1] at H
           have F0:(!(d0 == j7) || (!(d5 == j8))) = true:=C1
           clear C1
           have H':=A_ H
           clear H
           try go_wp2
           replace a6:=A_ (Kd.R_drew a6.out)
           replace b3:=A_ (Kd.R_drew b3.out)
           replace b6:=A_ (Kd.R_drew b6.out)
           replace a8:=A_ (Kd.R_drew a8.out)
           replace b2:=A_ (Kd.R_drew b2.out)
           replace a1:=A_ (blk_drew a1.out)
           replace a3:=A_ (blk_drew a3.out)
           replace a4:=A_ (blk_drew a4.out)
           replace HB:=A_ (below_drew1 HB.out)
           refine start_ (n:=41) (S:=fun w'=>w'.cell? ⟨b1,0,none⟩ = some (.int .i64 b9) ∧ w'.cell? ⟨b1,1,none⟩ = some (.int .i64 d1) ∧ w'.cell? ⟨b4,0,none⟩ = some (.int .i64 d4) ∧ w'.cell? ⟨b4,1,none⟩ = some (.int .i64 d7) ∧ w'.cell? ⟨b0,0,none⟩ = some (.int .i64 d0) ∧ w'.cell? ⟨b0,1,none⟩ = some (.int .i64 d5)) (ds:=[]) (ba 41 0) (by kernel_rfl) rfl rfl ⟨cz a1 0,cz a1 1,cz a3 0,cz a3 1,cz a4 0,cz a4 1⟩ (fun hHeld=>?_);refine with_tabW numnahlaw07_SharesSums.tab20 numnahlaw07_SharesSums.bits20 (fun HT_ HW_=>?_)
           generalize u1.drew = S0 at a6 b3 b6 a8 b2 a1 a3 a4 HB hHeld ⊢
           refine pq 0 117 1 HT_ ?_
           refine pq 1 118 3 HT_ ?_
           refine pq 2 119 7 HT_ ?_
           refine pq 3 120 15 HT_ ?_
           refine pq 4 121 31 HT_ ?_
           refine pq 5 122 63 HT_ ?_
           refine pq 6 123 127 HT_ ?_
           refine pq 7 124 255 HT_ ?_
           refine pq 8 125 511 HT_ ?_
           refine pq 9 126 1023 HT_ ?_
           refine pq 10 127 2047 HT_ ?_
           refine pq 11 128 4095 HT_ ?_
           refine pq 12 129 8191 HT_ ?_
           refine pq 13 130 16383 HT_ ?_
           refine pq 14 131 32767 HT_ ?_
           refine pq 15 132 65535 HT_ ?_
           refine pq 16 133 131071 HT_ ?_
           refine pq 17 134 262143 HT_ ?_
           refine pq 18 135 524287 HT_ ?_
           refine tq 19 136 1048575 HT_ HW_ hHeld ?_
           refine tq 20 137 2097151 HT_ HW_ hHeld ?_
           refine pq 21 138 4194303 HT_ ?_
           refine pq 22 139 8388607 HT_ ?_
           refine pq 23 140 16777215 HT_ ?_
           refine tq 24 141 33554431 HT_ HW_ hHeld ?_
           refine oq 25 142 67108863 HT_ (fun K hK=>?_)
           refine gq Try.func23 #[.int .i64 0] ?_
           with_reducible refine (numnahref07_Whole.calls 0 j7 j8 _ K3.out).mono ?_
           rintro e S1 ⟨rfl,hb⟩
           refine ⟨_,rfl,?_⟩
           replace a6:=rB a6 hb
           replace b3:=rB b3 hb
           replace b6:=rB b6 hb
           replace a8:=rB a8 hb
           replace b2:=rB b2 hb
           replace a1:=kB a1 hb
           replace a3:=kB a3 hb
           replace a4:=kB a4 hb
           replace HB:=bB HB hb
           (try clear hb)
           refine hK.out _ _ ⟨cz a1 0,cz a1 1,cz a3 0,cz a3 1,cz a4 0,cz a4 1⟩ (fun hHeld=>?_)
           clear hK K
           refine nq 142 ?_
           refine pq 26 143 134217727 HT_ ?_
           refine pq 27 144 268435455 HT_ ?_
           refine pq 28 145 536870911 HT_ ?_
           refine pu 29 146 1073741823 HT_ ?_
           refine pu 30 147 2147483647 HT_ ?_
           refine pu 31 148 4294967295 HT_ ?_
           refine pu 32 149 8589934591 HT_ ?_
           refine pq 33 150 17179869183 HT_ ?_
           refine pq 34 151 34359738367 HT_ ?_
           refine pu 35 152 68719476735 HT_ ?_
           refine pu 36 153 137438953471 HT_ ?_
           refine pu 37 154 274877906943 HT_ ?_
           refine pu 38 155 549755813887 HT_ ?_
           refine pu 39 156 1099511627775 HT_ ?_
           refine pq 40 157 2199023255551 HT_ ?_
           refine done_ (done_of HT_.out (by kernel_rfl)) ?_
           try go_wp2
           go_meet
           case rel=>exact ⟨_,(true),(by first | rfl | (simp;done) | (simp [*];done)),H',⟨by have:=l9.out;have:=m2.out;have:=q2.out;have:=q9.out;first | omega | exact Nat.le_refl _⟩,⟨by (with_reducible repeat (first | apply Kd.R_alloc | apply Kd.R_drewN | apply Kd.R_drew));exact Kd.R_mono a6.out (fun _ hk=>⟨hk.1.2,⟨hk.1.1.1.1.2,⟨hk.1.1.1.2,hk.1.1.2⟩⟩⟩)⟩,⟨by (with_reducible repeat (first | apply Kd.R_alloc | apply Kd.R_drewN | apply Kd.R_drew));exact Kd.R_mono a8.out (fun _ hk=>⟨hk.1.1.1.1.1.1.2,⟨hk.1.1.1.2,⟨hk.1.1.2,hk.1.2⟩⟩⟩)⟩,⟨by (with_reducible repeat (first | refine blk_drewN ?_ _ | refine blk_drew ?_ | refine blk_alloc ?_ _));exact a1.out⟩,⟨by (with_reducible repeat (first | refine blk_drewN ?_ _ | refine blk_drew ?_ | refine blk_alloc ?_ _));exact a3.out⟩,⟨by (with_reducible repeat (first | refine blk_drewN ?_ _ | refine blk_drew ?_ | refine blk_alloc ?_ _));exact a4.out⟩,⟨by repeat (first | (with_reducible first | exact HB.out | apply below_alloc | apply pw_below_drewN | apply below_drew1 | refine below_set ?_ e4.out | refine below_set ?_ e5.out | refine below_set ?_ e6.out) | exact HB.out)⟩⟩
          rw [if_neg C1] at H
          have F0:(!(d0 == j7) || (!(d5 == j8))) = false:=by simpa using C1
          clear C1
          replace H:=Option.bind_eq_some_iff.mp H
          obtain ⟨e7,F1,H⟩:=H
          replace H:(if e7 = true then (numnahlaw07_SharesSums.j4 k4 a2 a5 ((a5.length:Int) != (a2.length:Int))) else (numnahlaw07_SharesSums.j4 k4 a2 a5 true)) = some r:=H
          have N1:=A_ F1
          clear F1
          by_cases J1:e7 = true
          ·subst J1
           have H1:(numnahlaw07_SharesSums.j4 k4 a2 a5 ((a5.length:Int) != (a2.length:Int))) = some r:=by rw [if_pos rfl] at H;exact H
           clear H
           have H:=H1
           clear H1
           have H':=A_ H
           clear H
           try go_wp2
           replace a6:=A_ (Kd.R_drew a6.out)
           replace b3:=A_ (Kd.R_drew b3.out)
           replace b6:=A_ (Kd.R_drew b6.out)
           replace a8:=A_ (Kd.R_drew a8.out)
           replace b2:=A_ (Kd.R_drew b2.out)
           replace a1:=A_ (blk_drew a1.out)
           replace a3:=A_ (blk_drew a3.out)
           replace a4:=A_ (blk_drew a4.out)
           replace HB:=A_ (below_drew1 HB.out)
           refine start_ (n:=41) (S:=fun w'=>w'.cell? ⟨b1,0,none⟩ = some (.int .i64 b9) ∧ w'.cell? ⟨b1,1,none⟩ = some (.int .i64 d1) ∧ w'.cell? ⟨b4,0,none⟩ = some (.int .i64 d4) ∧ w'.cell? ⟨b4,1,none⟩ = some (.int .i64 d7) ∧ w'.cell? ⟨b0,0,none⟩ = some (.int .i64 d0) ∧ w'.cell? ⟨b0,1,none⟩ = some (.int .i64 d5)) (ds:=[]) (ba 41 0) (by kernel_rfl) rfl rfl ⟨cz a1 0,cz a1 1,cz a3 0,cz a3 1,cz a4 0,cz a4 1⟩ (fun hHeld=>?_);refine with_tabW numnahlaw07_SharesSums.tab20 numnahlaw07_SharesSums.bits20 (fun HT_ HW_=>?_)
           generalize u1.drew = S2 at a6 b3 b6 a8 b2 a1 a3 a4 HB hHeld ⊢
           refine pq 0 117 1 HT_ ?_
           refine pq 1 118 3 HT_ ?_
           refine pq 2 119 7 HT_ ?_
           refine pq 3 120 15 HT_ ?_
           refine pq 4 121 31 HT_ ?_
           refine pq 5 122 63 HT_ ?_
           refine pq 6 123 127 HT_ ?_
           refine pq 7 124 255 HT_ ?_
           refine pq 8 125 511 HT_ ?_
           refine pq 9 126 1023 HT_ ?_
           refine pq 10 127 2047 HT_ ?_
           refine pq 11 128 4095 HT_ ?_
           refine pq 12 129 8191 HT_ ?_
           refine pq 13 130 16383 HT_ ?_
           refine pq 14 131 32767 HT_ ?_
           refine pq 15 132 65535 HT_ ?_
           refine pq 16 133 131071 HT_ ?_
           refine pq 17 134 262143 HT_ ?_
           refine pq 18 135 524287 HT_ ?_
           refine tq 19 136 1048575 HT_ HW_ hHeld ?_
           refine tq 20 137 2097151 HT_ HW_ hHeld ?_
           refine pq 21 138 4194303 HT_ ?_
           refine pq 22 139 8388607 HT_ ?_
           refine pq 23 140 16777215 HT_ ?_
           refine tq 24 141 33554431 HT_ HW_ hHeld ?_
           refine oq 25 142 67108863 HT_ (fun K hK=>?_)
           refine gq Try.func23 #[.int .i64 0] ?_
           with_reducible refine (numnahref07_Whole.calls 0 j7 j8 _ K3.out).mono ?_
           rintro e S3 ⟨rfl,hb⟩
           refine ⟨_,rfl,?_⟩
           replace a6:=rB a6 hb
           replace b3:=rB b3 hb
           replace b6:=rB b6 hb
           replace a8:=rB a8 hb
           replace b2:=rB b2 hb
           replace a1:=kB a1 hb
           replace a3:=kB a3 hb
           replace a4:=kB a4 hb
           replace HB:=bB HB hb
           (try clear hb)
           obtain ⟨K4,K5,F2⟩:=Kd.R_slice b2.out
           (first | subst F2 | (injection F2 with F3 K6 F4;have K7:=F3.symm;have K8:=F4.symm;clear F3 K6 F4;subst K7;subst K8))
           refine hK.out _ _ ⟨cz a1 0,cz a1 1,cz a3 0,cz a3 1,cz a4 0,cz a4 1⟩ (fun hHeld=>?_)
           clear hK K
           refine nq 142 ?_
           refine pq 26 143 134217727 HT_ ?_
           refine pq 27 144 268435455 HT_ ?_
           refine pq 28 145 536870911 HT_ ?_
           refine pq 29 146 1073741823 HT_ ?_
           refine pq 30 147 2147483647 HT_ ?_
           refine oq 31 148 4294967295 HT_ (fun K hK=>?_)
           refine gq Try.func33 #[.slice q3 a5.length q4,.slice K4 i8.length K5] ?_
           with_reducible refine (numnahref07_Same.calls k4 _ _ a5 _ _ i8 true _ ?side1 ?side2 ?side3 ?side4 N1.out).mono ?_
           (case side1=>repeat (first | exact (Kd.R_reads' a8.out).2.2 | (with_reducible refine Kd.C_alloc ?_ _) | (with_reducible refine Kd.C_drewN ?_ _) | (with_reducible refine Kd.C_drew ?_)))
           (case side2=>exact (Kd.R_reads' a8.out).2.1)
           (case side3=>repeat (first | exact (Kd.R_reads' b2.out).2.2 | (with_reducible refine Kd.C_alloc ?_ _) | (with_reducible refine Kd.C_drewN ?_ _) | (with_reducible refine Kd.C_drew ?_)))
           (case side4=>exact (Kd.R_reads' b2.out).2.1)
           rintro e w' ⟨rfl,⟨nd,rfl⟩⟩
           refine ⟨_,rfl,?_⟩
           refine hK.out _ _ ⟨cz a1 0,cz a1 1,cz a3 0,cz a3 1,cz a4 0,cz a4 1⟩ (fun hHeld=>?_)
           clear hK K
           refine nq 148 ?_
           refine pq 32 149 8589934591 HT_ ?_
           refine pq 33 150 17179869183 HT_ ?_
           refine pq 34 151 34359738367 HT_ ?_
           refine pq 35 152 68719476735 HT_ ?_
           refine pq 36 153 137438953471 HT_ ?_
           refine pq 37 154 274877906943 HT_ ?_
           refine pq 38 155 549755813887 HT_ ?_
           refine pq 39 156 1099511627775 HT_ ?_
           refine pq 40 157 2199023255551 HT_ ?_
           refine done_ (done_of HT_.out (by kernel_rfl)) ?_
           try go_wp2
           go_meet
           case rel=>exact ⟨_,(((a5.length:Int) != (a2.length:Int))),(by first | rfl | (simp;done) | (simp [*];done)),H',⟨by have:=l9.out;have:=m2.out;have:=q2.out;have:=q9.out;first | omega | exact Nat.le_refl _⟩,⟨by (with_reducible repeat (first | apply Kd.R_alloc | apply Kd.R_drewN | apply Kd.R_drew));exact Kd.R_mono a6.out (fun _ hk=>⟨hk.1.2,⟨hk.1.1.1.1.2,⟨hk.1.1.1.2,hk.1.1.2⟩⟩⟩)⟩,⟨by (with_reducible repeat (first | apply Kd.R_alloc | apply Kd.R_drewN | apply Kd.R_drew));exact Kd.R_mono a8.out (fun _ hk=>⟨hk.1.1.1.1.1.1.2,⟨hk.1.1.1.2,⟨hk.1.1.2,hk.1.2⟩⟩⟩)⟩,⟨by (with_reducible repeat (first | refine blk_drewN ?_ _ | refine blk_drew ?_ | refine blk_alloc ?_ _));exact a1.out⟩,⟨by (with_reducible repeat (first | refine blk_drewN ?_ _ | refine blk_drew ?_ | refine blk_alloc ?_ _));exact a3.out⟩,⟨by (with_reducible repeat (first | refine blk_drewN ?_ _ | refine blk_drew ?_ | refine blk_alloc ?_ _));exact a4.out⟩,⟨by repeat (first | (with_reducible first | exact HB.out | apply below_alloc | apply pw_below_drewN | apply below_drew1 | refine below_set ?_ e4.out | refine below_set ?_ e5.out | refine below_set ?_ e6.out) | exact HB.out)⟩⟩
          replace J1:=Bool.eq_false_iff.mpr J1
          subst J1
          have H1:(numnahlaw07_SharesSums.j4 k4 a2 a5 true) = some r:=by rw [if_neg (show ¬ (false = true) by decide)] at H;exact H
          clear H
          have H:=H1
          clear H1
          have H':=A_ H
          clear H
          try go_wp2
          replace a6:=A_ (Kd.R_drew a6.out)
          replace b3:=A_ (Kd.R_drew b3.out)
          replace b6:=A_ (Kd.R_drew b6.out)
          replace a8:=A_ (Kd.R_drew a8.out)
          replace b2:=A_ (Kd.R_drew b2.out)
          replace a1:=A_ (blk_drew a1.out)
          replace a3:=A_ (blk_drew a3.out)
          replace a4:=A_ (blk_drew a4.out)
          replace HB:=A_ (below_drew1 HB.out)
          refine start_ (n:=41) (S:=fun w'=>w'.cell? ⟨b1,0,none⟩ = some (.int .i64 b9) ∧ w'.cell? ⟨b1,1,none⟩ = some (.int .i64 d1) ∧ w'.cell? ⟨b4,0,none⟩ = some (.int .i64 d4) ∧ w'.cell? ⟨b4,1,none⟩ = some (.int .i64 d7) ∧ w'.cell? ⟨b0,0,none⟩ = some (.int .i64 d0) ∧ w'.cell? ⟨b0,1,none⟩ = some (.int .i64 d5)) (ds:=[]) (ba 41 0) (by kernel_rfl) rfl rfl ⟨cz a1 0,cz a1 1,cz a3 0,cz a3 1,cz a4 0,cz a4 1⟩ (fun hHeld=>?_);refine with_tabW numnahlaw07_SharesSums.tab20 numnahlaw07_SharesSums.bits20 (fun HT_ HW_=>?_)
          generalize u1.drew = S4 at a6 b3 b6 a8 b2 a1 a3 a4 HB hHeld ⊢
          refine pq 0 117 1 HT_ ?_
          refine pq 1 118 3 HT_ ?_
          refine pq 2 119 7 HT_ ?_
          refine pq 3 120 15 HT_ ?_
          refine pq 4 121 31 HT_ ?_
          refine pq 5 122 63 HT_ ?_
          refine pq 6 123 127 HT_ ?_
          refine pq 7 124 255 HT_ ?_
          refine pq 8 125 511 HT_ ?_
          refine pq 9 126 1023 HT_ ?_
          refine pq 10 127 2047 HT_ ?_
          refine pq 11 128 4095 HT_ ?_
          refine pq 12 129 8191 HT_ ?_
          refine pq 13 130 16383 HT_ ?_
          refine pq 14 131 32767 HT_ ?_
          refine pq 15 132 65535 HT_ ?_
          refine pq 16 133 131071 HT_ ?_
          refine pq 17 134 262143 HT_ ?_
          refine pq 18 135 524287 HT_ ?_
          refine tq 19 136 1048575 HT_ HW_ hHeld ?_
          refine tq 20 137 2097151 HT_ HW_ hHeld ?_
          refine pq 21 138 4194303 HT_ ?_
          refine pq 22 139 8388607 HT_ ?_
          refine pq 23 140 16777215 HT_ ?_
          refine tq 24 141 33554431 HT_ HW_ hHeld ?_
          refine oq 25 142 67108863 HT_ (fun K hK=>?_)
          refine gq Try.func23 #[.int .i64 0] ?_
          with_reducible refine (numnahref07_Whole.calls 0 j7 j8 _ K3.out).mono ?_
          rintro e S5 ⟨rfl,hb⟩
          refine ⟨_,rfl,?_⟩
          replace a6:=rB a6 hb
          replace b3:=rB b3 hb
          replace b6:=rB b6 hb
          replace a8:=rB a8 hb
          replace b2:=rB b2 hb
          replace a1:=kB a1 hb
          replace a3:=kB a3 hb
          replace a4:=kB a4 hb
          replace HB:=bB HB hb
          (try clear hb)
          obtain ⟨K9,L0,F5⟩:=Kd.R_slice b2.out
          (first | subst F5 | (injection F5 with F3 K6 F4;have K7:=F3.symm;have K8:=F4.symm;clear F3 K6 F4;subst K7;subst K8))
          refine hK.out _ _ ⟨cz a1 0,cz a1 1,cz a3 0,cz a3 1,cz a4 0,cz a4 1⟩ (fun hHeld=>?_)
          clear hK K
          refine nq 142 ?_
          refine pq 26 143 134217727 HT_ ?_
          refine pq 27 144 268435455 HT_ ?_
          refine pq 28 145 536870911 HT_ ?_
          refine pq 29 146 1073741823 HT_ ?_
          refine pq 30 147 2147483647 HT_ ?_
          refine oq 31 148 4294967295 HT_ (fun K hK=>?_)
          refine gq Try.func33 #[.slice q3 a5.length q4,.slice K9 i8.length L0] ?_
          with_reducible refine (numnahref07_Same.calls k4 _ _ a5 _ _ i8 false _ ?side1 ?side2 ?side3 ?side4 N1.out).mono ?_
          (case side1=>repeat (first | exact (Kd.R_reads' a8.out).2.2 | (with_reducible refine Kd.C_alloc ?_ _) | (with_reducible refine Kd.C_drewN ?_ _) | (with_reducible refine Kd.C_drew ?_)))
          (case side2=>exact (Kd.R_reads' a8.out).2.1)
          (case side3=>repeat (first | exact (Kd.R_reads' b2.out).2.2 | (with_reducible refine Kd.C_alloc ?_ _) | (with_reducible refine Kd.C_drewN ?_ _) | (with_reducible refine Kd.C_drew ?_)))
          (case side4=>exact (Kd.R_reads' b2.out).2.1)
          rintro e w' ⟨rfl,⟨nd,rfl⟩⟩
          refine ⟨_,rfl,?_⟩
          refine hK.out _ _ ⟨cz a1 0,cz a1 1,cz a3 0,cz a3 1,cz a4 0,cz a4 1⟩ (fun hHeld=>?_)
          clear hK K
          refine nq 148 ?_
          refine pq 32 149 8589934591 HT_ ?_
          refine pq 33 150 17179869183 HT_ ?_
          refine pq 34 151 34359738367 HT_ ?_
          refine pu 35 152 68719476735 HT_ ?_
          refine pu 36 153 137438953471 HT_ ?_
          refine pu 37 154 274877906943 HT_ ?_
          refine pu 38 155 549755813887 HT_ ?_
          refine pu 39 156 1099511627775 HT_ ?_
          refine pq 40 157 2199023255551 HT_ ?_
          refine done_ (done_of HT_.out (by kernel_rfl)) ?_
          try go_wp2
          go_meet
          case rel=>exact ⟨_,(true),(by first | rfl | (simp;done) | (simp [*];done)),H',⟨by have:=l9.out;have:=m2.out;have:=q2.out;have:=q9.out;first | omega | exact Nat.le_refl _⟩,⟨by (with_reducible repeat (first | apply Kd.R_alloc | apply Kd.R_drewN | apply Kd.R_drew));exact Kd.R_mono a6.out (fun _ hk=>⟨hk.1.2,⟨hk.1.1.1.1.2,⟨hk.1.1.1.2,hk.1.1.2⟩⟩⟩)⟩,⟨by (with_reducible repeat (first | apply Kd.R_alloc | apply Kd.R_drewN | apply Kd.R_drew));exact Kd.R_mono a8.out (fun _ hk=>⟨hk.1.1.1.1.1.1.2,⟨hk.1.1.1.2,⟨hk.1.1.2,hk.1.2⟩⟩⟩)⟩,⟨by (with_reducible repeat (first | refine blk_drewN ?_ _ | refine blk_drew ?_ | refine blk_alloc ?_ _));exact a1.out⟩,⟨by (with_reducible repeat (first | refine blk_drewN ?_ _ | refine blk_drew ?_ | refine blk_alloc ?_ _));exact a3.out⟩,⟨by (with_reducible repeat (first | refine blk_drewN ?_ _ | refine blk_drew ?_ | refine blk_alloc ?_ _));exact a4.out⟩,⟨by repeat (first | (with_reducible first | exact HB.out | apply below_alloc | apply pw_below_drewN | apply below_drew1 | refine below_set ?_ e4.out | refine below_set ?_ e5.out | refine below_set ?_ e6.out) | exact HB.out)⟩⟩
         case rest =>
          clear y7
          try clear p2
          try clear c5
          try clear u2
          try clear j5
          try clear r8
          try clear u5
          try clear r9
          try clear s0
          obtain ⟨kq,i3,rfl,HA,F6,a6,d8,a1,a3,a4,HB⟩:=hcut
          cases kq with
          | zero=>exact absurd HA.out (by simp [numnahlaw07_SharesSums.j4])
          | succ z7 =>
           have H:=HA.out
           clear HA
           simp only [numnahlaw07_SharesSums.j4] at H
           by_cases F7:i3 = true
           ·subst F7
            have H1:(some false) = some r:=by rw [if_pos rfl] at H;exact H
            clear H
            have H:=H1
            clear H1
            exact absurd ((Option.some.inj H).trans HRT.out) (by decide)
           replace F7:=Bool.eq_false_iff.mpr F7
           subst F7
           have H1:(numnahlaw07_SharesSums.l3 z7 a2 a5 1) = some r:=by rw [if_neg (show ¬ (false = true) by decide)] at H;exact H
           clear H
           have H:=H1
           clear H1
           have H':=A_ H
           clear H
           go_wp2
           go_loopg [19] z7 (fun kq O9 w'=>∃ (a9:Int),O9 = .int .i64 a9 ∧ Aside0 (numnahlaw07_SharesSums.l3 kq a2 a5 a9 = some r) ∧ Aside0 (kq ≤ z7) ∧ Aside0 (Kd.R k23 23 w' w.heap.size (fun k_=>some k_ ≠ ((.slice q3 a5.length q4):Value).ownBlock ∧ k_ ≠ b1 ∧ k_ ≠ b4 ∧ k_ ≠ b0) (.slice h5 a2.length g5) a2) ∧ Aside0 (Kd.R k23 23 w' w.heap.size (fun k_=>some k_ ≠ ((.slice h5 a2.length g5):Value).ownBlock ∧ k_ ≠ b1 ∧ k_ ≠ b4 ∧ k_ ≠ b0) (.slice q3 a5.length q4) a5) ∧ Aside0 (w'.heap[b1]? = some (.cells #[.int .i64 b9,.int .i64 d1] 23 (0,0))) ∧ Aside0 (w'.heap[b4]? = some (.cells #[.int .i64 d4,.int .i64 d7] 23 (0,0))) ∧ Aside0 (w'.heap[b0]? = some (.cells #[.int .i64 d0,.int .i64 d5] 23 (0,0))) ∧ Aside0 (Below w.heap.size w w'))
           case atStart=>exact ⟨(1),(by first | rfl | (simp;done) | (simp [*];done)),H',⟨Nat.le_refl _⟩,⟨by (with_reducible repeat (first | apply Kd.R_alloc | apply Kd.R_drewN | apply Kd.R_drew));exact a6.out⟩,⟨by (with_reducible repeat (first | apply Kd.R_alloc | apply Kd.R_drewN | apply Kd.R_drew));exact d8.out⟩,⟨by (with_reducible repeat (first | refine blk_drewN ?_ _ | refine blk_drew ?_ | refine blk_alloc ?_ _));exact a1.out⟩,⟨by (with_reducible repeat (first | refine blk_drewN ?_ _ | refine blk_drew ?_ | refine blk_alloc ?_ _));exact a3.out⟩,⟨by (with_reducible repeat (first | refine blk_drewN ?_ _ | refine blk_drew ?_ | refine blk_alloc ?_ _));exact a4.out⟩,⟨by repeat (first | (with_reducible first | exact HB.out | apply below_alloc | apply pw_below_drewN | apply below_drew1 | refine below_set ?_ e4.out | refine below_set ?_ e5.out | refine below_set ?_ e6.out) | exact HB.out)⟩⟩
           case round=>as_aux_lemma =>
            clear H'
            try clear p2
            try clear c5
            try clear c7
            try clear u2
            try clear j5
            try clear r8
            try clear u5
            try clear r9
            try clear s0
            try clear F7
            try clear p2
            obtain ⟨a9,rfl,HA,N2,a6,d8,a1,a3,a4,HB⟩:=hrel
            cases gk with
            | zero=>exact absurd HA.out (by simp [numnahlaw07_SharesSums.l3])
            | succ k6 =>
             have H:=HA.out
             clear HA
             simp only [numnahlaw07_SharesSums.l3] at H
             by_cases C2:a9 < (a2.length:Int)
             case neg =>
              rw [if_neg C2] at H
              have F8:decide (a9 < (a2.length:Int)) = false:=decide_eq_false C2
              clear C2
              replace H:=Option.bind_eq_some_iff.mp H
              obtain ⟨q5,w3,H⟩:=H
              replace H:(some q5) = some r:=H
              have t9:=A_ w3
              clear w3
              obtain rfl:=Option.some.inj H
              go_wp2_with (first | ((with_reducible refine gate_callee (f:=22) rfl ?_);refine goesL_ (some 223) rfl rfl Try.func22 (by kernel_rfl) rfl #[] rfl (by (try simp only [List.map_toArray,List.map_cons,List.map_nil]);first | done | rfl | (simp only [List.length_drop,List.length_take];rfl)) ?_;(with_reducible refine (numnahlaw07_awake.calls k6  q5 _ t9.out).mono ?_);rintro e P0 ⟨rfl,hb⟩;refine ⟨_,rfl,?_⟩;replace a6:=rB a6 hb;replace d8:=rB d8 hb;replace a1:=kB a1 hb;replace a3:=kB a3 hb;replace a4:=kB a4 hb;replace HB:=bB HB hb;(try clear hb)))
              go_ret
              exact ⟨by first | rfl | (simp [errW_none,errW_some] <;> rfl) | (simp [*,errW_none,errW_some] <;> rfl),by repeat (first | (with_reducible first | exact HB.out | apply below_alloc | apply pw_below_drewN | apply below_drew1 | refine below_set ?_ e4.out | refine below_set ?_ e5.out | refine below_set ?_ e6.out) | exact HB.out)⟩
             rw [if_pos C2] at H
             have F8:decide (a9 < (a2.length:Int)) = true:=decide_eq_true C2
             clear C2
             obtain ⟨b5,l7⟩:∃ j_:Int,(wrap64 (a9 - 1)) = j_:=⟨_,rfl⟩
             replace H:(if 0 ≤ (b5) then (if (b5) < (a2.length:Int) then (if 0 ≤ a9 then ((shares_Compare.f k6 ((rd_T23 a2 (b5)).f0) ((rd_T23 a2 (b5)).f1) ((rd_T23 a2 a9).f0) ((rd_T23 a2 a9).f1)).bind fun i4=>((shares_Compare.f k6 ((rd_T23 a2 a9).f0) ((rd_T23 a2 a9).f1) ((rd_T23 a2 (b5)).f0) ((rd_T23 a2 (b5)).f1)).bind fun g6=>(if (b5) < (a5.length:Int) then (if a9 < (a5.length:Int) then ((shares_Compare.f k6 ((rd_T23 a5 (b5)).f0) ((rd_T23 a5 (b5)).f1) ((rd_T23 a5 a9).f0) ((rd_T23 a5 a9).f1)).bind fun e9=>(if i4.2 = 0 then (if g6.2 = 0 then (if e9.2 = 0 then (if i4.1 = (wrap64 (-g6.1)) then (if e9.1 > 0 then (some false) else (numnahlaw07_SharesSums.l3 k6 a2 a5 (wrap64 (a9 + 1)))) else (some false)) else (some false)) else (some false)) else (some false))) else (none)) else (none)))) else (none)) else (none)) else (none)) = some r:=by first | (rw [l7] at H;exact H) | (simp only [l7] at H ⊢;exact H)
             have hji80w:(IntKind.i64.wrap (a9 - 1)) = b5:=(i64_w _).trans l7
             by_cases J2:0 ≤ (b5)
             case neg =>
              rw [if_neg J2] at H
              exact absurd H (by simp)
             rw [if_pos J2] at H
             have N3:decide (0 ≤ (b5)) = true:=decide_eq_true J2
             clear J2
             by_cases J3:(b5) < (a2.length:Int)
             case neg =>
              rw [if_neg J3] at H
              exact absurd H (by simp)
             rw [if_pos J3] at H
             have N4:decide ((b5) < (a2.length:Int)) = true:=decide_eq_true J3
             clear J3
             by_cases J4:0 ≤ a9
             case neg =>
              rw [if_neg J4] at H
              exact absurd H (by simp)
             rw [if_pos J4] at H
             have N5:decide (0 ≤ a9) = true:=decide_eq_true J4
             clear J4
             replace H:=Option.bind_eq_some_iff.mp H
             obtain ⟨⟨h7,h8⟩,A840,H⟩:=H
             replace H:((shares_Compare.f k6 ((rd_T23 a2 a9).f0) ((rd_T23 a2 a9).f1) ((rd_T23 a2 (b5)).f0) ((rd_T23 a2 (b5)).f1)).bind fun g6=>(if (b5) < (a5.length:Int) then (if a9 < (a5.length:Int) then ((shares_Compare.f k6 ((rd_T23 a5 (b5)).f0) ((rd_T23 a5 (b5)).f1) ((rd_T23 a5 a9).f0) ((rd_T23 a5 a9).f1)).bind fun e9=>(if h8 = 0 then (if g6.2 = 0 then (if e9.2 = 0 then (if h7 = (wrap64 (-g6.1)) then (if e9.1 > 0 then (some false) else (numnahlaw07_SharesSums.l3 k6 a2 a5 (wrap64 (a9 + 1)))) else (some false)) else (some false)) else (some false)) else (some false))) else (none)) else (none))) = some r:=H
             have P1:=A_ A840
             clear A840
             replace H:=Option.bind_eq_some_iff.mp H
             obtain ⟨⟨i0,i1⟩,A850,H⟩:=H
             replace H:(if (b5) < (a5.length:Int) then (if a9 < (a5.length:Int) then ((shares_Compare.f k6 ((rd_T23 a5 (b5)).f0) ((rd_T23 a5 (b5)).f1) ((rd_T23 a5 a9).f0) ((rd_T23 a5 a9).f1)).bind fun e9=>(if h8 = 0 then (if i1 = 0 then (if e9.2 = 0 then (if h7 = (wrap64 (-i0)) then (if e9.1 > 0 then (some false) else (numnahlaw07_SharesSums.l3 k6 a2 a5 (wrap64 (a9 + 1)))) else (some false)) else (some false)) else (some false)) else (some false))) else (none)) else (none)) = some r:=H
             have P2:=A_ A850
             clear A850
             by_cases J5:(b5) < (a5.length:Int)
             case neg =>
              rw [if_neg J5] at H
              exact absurd H (by simp)
             rw [if_pos J5] at H
             have N6:decide ((b5) < (a5.length:Int)) = true:=decide_eq_true J5
             clear J5
             by_cases J6:a9 < (a5.length:Int)
             case neg =>
              rw [if_neg J6] at H
              exact absurd H (by simp)
             rw [if_pos J6] at H
             have N7:decide (a9 < (a5.length:Int)) = true:=decide_eq_true J6
             clear J6
             replace H:=Option.bind_eq_some_iff.mp H
             obtain ⟨⟨n5,j9⟩,A880,H⟩:=H
             replace H:(if h8 = 0 then (if i1 = 0 then (if j9 = 0 then (if h7 = (wrap64 (-i0)) then (if n5 > 0 then (some false) else (numnahlaw07_SharesSums.l3 k6 a2 a5 (wrap64 (a9 + 1)))) else (some false)) else (some false)) else (some false)) else (some false)) = some r:=H
             have P3:=A_ A880
             clear A880
             by_cases z8:h8 = 0
             case neg =>
              rw [if_neg z8] at H
              have F9:(h8 == 0) = false:=beq_eq_false_iff_ne.mpr z8
              have G0:(h8 != 0) = true:=bne_iff_ne.mpr z8
              exact absurd ((Option.some.inj H).trans HRT.out) (by decide)
             rw [if_pos z8] at H
             have F9:(h8 == 0) = true:=beq_iff_eq.mpr z8
             have G0:(h8 != 0) = false:=bne_eq_false_iff_eq.mpr z8
             clear z8
             by_cases z9:i1 = 0
             case neg =>
              rw [if_neg z9] at H
              have G1:(i1 == 0) = false:=beq_eq_false_iff_ne.mpr z9
              have G2:(i1 != 0) = true:=bne_iff_ne.mpr z9
              exact absurd ((Option.some.inj H).trans HRT.out) (by decide)
             rw [if_pos z9] at H
             have G1:(i1 == 0) = true:=beq_iff_eq.mpr z9
             have G2:(i1 != 0) = false:=bne_eq_false_iff_eq.mpr z9
             clear z9
             by_cases A1:j9 = 0
             case neg =>
              rw [if_neg A1] at H
              have G3:(j9 == 0) = false:=beq_eq_false_iff_ne.mpr A1
              have G4:(j9 != 0) = true:=bne_iff_ne.mpr A1
              exact absurd ((Option.some.inj H).trans HRT.out) (by decide)
             rw [if_pos A1] at H
             have G3:(j9 == 0) = true:=beq_iff_eq.mpr A1
             have G4:(j9 != 0) = false:=bne_eq_false_iff_eq.mpr A1
             clear A1
             by_cases A2:h7 = (wrap64 (-i0))
             case neg =>
              rw [if_neg A2] at H
              have G5:(h7 == (wrap64 (-i0))) = false:=beq_eq_false_iff_ne.mpr A2
              have G6:(h7 != (wrap64 (-i0))) = true:=bne_iff_ne.mpr A2
              exact absurd ((Option.some.inj H).trans HRT.out) (by decide)
             rw [if_pos A2] at H
             have G5:(h7 == (wrap64 (-i0))) = true:=beq_iff_eq.mpr A2
             have G6:(h7 != (wrap64 (-i0))) = false:=bne_eq_false_iff_eq.mpr A2
             clear A2
             by_cases C3:n5 > 0
             ·rw [if_pos C3] at H
              have G7:decide (0 < n5) = true:=decide_eq_true C3
              clear C3
              exact absurd ((Option.some.inj H).trans HRT.out) (by decide)
             rw [if_neg C3] at H
             have G7:decide (0 < n5) = false:=decide_eq_false C3
             clear C3
             have H':=A_ H
             clear H
             try go_wp2
             replace a6:=A_ (Kd.R_drew a6.out)
             replace d8:=A_ (Kd.R_drew d8.out)
             replace a1:=A_ (blk_drew a1.out)
             replace a3:=A_ (blk_drew a3.out)
             replace a4:=A_ (blk_drew a4.out)
             replace HB:=A_ (below_drew1 HB.out)
             have s1:0 ≤ ((b5):Int):=of_decide_eq_true (by first | (with_reducible assumption) | assumption)
             have s2:(b5) < (a2.length:Int):=of_decide_eq_true (by first | (with_reducible assumption) | assumption)
             obtain ⟨d9,G8,n6,n7⟩:=at_T23 (Kd.R_reads' a6.out).2.2 (b5) s1 s2
             cases G8
             replace s1:=eq_true s1
             replace s2:=eq_true s2
             have s3:0 ≤ (a9:Int):=of_decide_eq_true (by first | (with_reducible assumption) | assumption)
             have s4:a9 < (a2.length:Int):=of_decide_eq_true (by first | (with_reducible assumption) | assumption)
             obtain ⟨A3,G9,n8,n9⟩:=at_T23 (Kd.R_reads' a6.out).2.2 a9 s3 s4
             obtain rfl:d9 = A3:=(by injection G9)
             replace s3:=eq_true s3
             replace s4:=eq_true s4
             refine start_ (n:=15) (S:=fun w'=>w'.cell? (d9.add (((b5)).toNat * 2)) = some (.int .i64 ((rd_T23 a2 (b5)).f0)) ∧ w'.cell? ⟨(d9.add (((b5)).toNat * 2)).block,(d9.add (((b5)).toNat * 2)).off + 1,none⟩ = some (.int .i64 ((rd_T23 a2 (b5)).f1)) ∧ w'.cell? (d9.add ((a9).toNat * 2)) = some (.int .i64 ((rd_T23 a2 a9).f0)) ∧ w'.cell? ⟨(d9.add ((a9).toNat * 2)).block,(d9.add ((a9).toNat * 2)).off + 1,none⟩ = some (.int .i64 ((rd_T23 a2 a9).f1))) (ds:=[]) (ba 15 0) (by kernel_rfl) rfl rfl ⟨n6,n7,n8,n9⟩ (fun hHeld=>?_);refine with_tabW numnahlaw07_SharesSums.tab25 numnahlaw07_SharesSums.bits25 (fun HT_ HW_=>?_)
             generalize wr.drew = P4 at a6 d8 a1 a3 a4 HB n6 n7 n8 n9 hHeld ⊢
             refine pq 0 165 1 HT_ ?_
             refine pq 1 166 3 HT_ ?_
             refine pq 2 167 7 HT_ ?_
             refine pq 3 168 15 HT_ ?_
             refine pq 5 170 47 HT_ ?_
             refine pq 6 171 111 HT_ ?_
             refine pq 7 172 239 HT_ ?_
             refine tq 4 169 255 HT_ HW_ hHeld ?_
             refine tq 8 173 511 HT_ HW_ hHeld ?_
             refine oq 9 174 1023 HT_ (fun K hK=>?_)
             refine goes_ Try.func51 (by kernel_rfl) rfl #[.agg #[.int .i64 ((rd_T23 a2 (b5)).f0),.int .i64 ((rd_T23 a2 (b5)).f1)],.agg #[.int .i64 ((rd_T23 a2 a9).f0),.int .i64 ((rd_T23 a2 a9).f1)]] (by rfl) rfl rfl (by (try simp only [List.map_toArray,List.map_cons,List.map_nil]);first | done | (simp only [l7];rfl) | rfl | (simp only [List.length_drop,List.length_take];rfl)) ?_
             with_reducible refine (shares_Compare.calls k6 ((rd_T23 a2 (b5)).f0) ((rd_T23 a2 (b5)).f1) ((rd_T23 a2 a9).f0) ((rd_T23 a2 a9).f1) h7 h8 _ P1.out).mono ?_
             rintro e L1 ⟨rfl,hb⟩
             have s5:=(hb.cell (World.block_lt_of_cell? _ _ (hHeld.1))).trans (hHeld.1)
             have s6:=(hb.cell (World.block_lt_of_cell? _ _ (hHeld.2.1))).trans (hHeld.2.1)
             have s7:=(hb.cell (World.block_lt_of_cell? _ _ (hHeld.2.2.1))).trans (hHeld.2.2.1)
             have s8:=(hb.cell (World.block_lt_of_cell? _ _ (hHeld.2.2.2))).trans (hHeld.2.2.2)
             refine ⟨_,rfl,?_⟩
             replace a6:=rB a6 hb
             replace d8:=rB d8 hb
             replace a1:=kB a1 hb
             replace a3:=kB a3 hb
             replace a4:=kB a4 hb
             replace HB:=bB HB hb
             (try clear hb)
             refine hK.out _ _ ⟨s5,s6,s7,s8⟩ (fun hHeld=>?_)
             clear hK K
             refine nq 174 ?_
             refine pq 10 164 2047 HT_ ?_
             refine pq 11 175 4095 HT_ ?_
             refine pq 12 176 8191 HT_ ?_
             refine pq 13 20 16383 HT_ ?_
             refine pq 14 21 32767 HT_ ?_
             refine done_ (done_of HT_.out (by kernel_rfl)) ?_
             try go_wp2
             replace a6:=A_ (Kd.R_drew a6.out)
             replace d8:=A_ (Kd.R_drew d8.out)
             replace a1:=A_ (blk_drew a1.out)
             replace a3:=A_ (blk_drew a3.out)
             replace a4:=A_ (blk_drew a4.out)
             replace HB:=A_ (below_drew1 HB.out)
             have s9:0 ≤ (a9:Int):=of_decide_eq_true (by first | (with_reducible assumption) | assumption)
             have t0:a9 < (a2.length:Int):=of_decide_eq_true (by first | (with_reducible assumption) | assumption)
             obtain ⟨A4,H0,o0,o1⟩:=at_T23 (Kd.R_reads' a6.out).2.2 a9 s9 t0
             obtain rfl:d9 = A4:=(by injection H0)
             replace s9:=eq_true s9
             replace t0:=eq_true t0
             have t1:0 ≤ ((b5):Int):=of_decide_eq_true (by first | (with_reducible assumption) | assumption)
             have t2:(b5) < (a2.length:Int):=of_decide_eq_true (by first | (with_reducible assumption) | assumption)
             obtain ⟨A5,H2,o2,o3⟩:=at_T23 (Kd.R_reads' a6.out).2.2 (b5) t1 t2
             obtain rfl:d9 = A5:=(by injection H2)
             replace t1:=eq_true t1
             replace t2:=eq_true t2
             refine start_ (n:=15) (S:=fun w'=>w'.cell? (d9.add ((a9).toNat * 2)) = some (.int .i64 ((rd_T23 a2 a9).f0)) ∧ w'.cell? ⟨(d9.add ((a9).toNat * 2)).block,(d9.add ((a9).toNat * 2)).off + 1,none⟩ = some (.int .i64 ((rd_T23 a2 a9).f1)) ∧ w'.cell? (d9.add (((b5)).toNat * 2)) = some (.int .i64 ((rd_T23 a2 (b5)).f0)) ∧ w'.cell? ⟨(d9.add (((b5)).toNat * 2)).block,(d9.add (((b5)).toNat * 2)).off + 1,none⟩ = some (.int .i64 ((rd_T23 a2 (b5)).f1))) (ds:=[]) (ba 15 0) (by kernel_rfl) rfl rfl ⟨o0,o1,o2,o3⟩ (fun hHeld=>?_);refine with_tabW numnahlaw07_SharesSums.tab26 numnahlaw07_SharesSums.bits26 (fun HT_ HW_=>?_)
             generalize L1.drew = P5 at a6 d8 a1 a3 a4 HB o0 o1 o2 o3 hHeld ⊢
             refine pq 0 178 1 HT_ ?_
             refine pq 1 179 3 HT_ ?_
             refine pq 2 180 7 HT_ ?_
             refine pq 4 182 23 HT_ ?_
             refine pq 5 183 55 HT_ ?_
             refine pq 6 184 119 HT_ ?_
             refine pq 7 185 247 HT_ ?_
             refine tq 3 181 255 HT_ HW_ hHeld ?_
             refine tq 8 186 511 HT_ HW_ hHeld ?_
             refine oq 9 187 1023 HT_ (fun K hK=>?_)
             refine goes_ Try.func51 (by kernel_rfl) rfl #[.agg #[.int .i64 ((rd_T23 a2 a9).f0),.int .i64 ((rd_T23 a2 a9).f1)],.agg #[.int .i64 ((rd_T23 a2 (b5)).f0),.int .i64 ((rd_T23 a2 (b5)).f1)]] (by rfl) rfl rfl (by (try simp only [List.map_toArray,List.map_cons,List.map_nil]);first | done | (simp only [l7];rfl) | rfl | (simp only [List.length_drop,List.length_take];rfl)) ?_
             with_reducible refine (shares_Compare.calls k6 ((rd_T23 a2 a9).f0) ((rd_T23 a2 a9).f1) ((rd_T23 a2 (b5)).f0) ((rd_T23 a2 (b5)).f1) i0 i1 _ P2.out).mono ?_
             rintro e L2 ⟨rfl,hb⟩
             have s5:=(hb.cell (World.block_lt_of_cell? _ _ (hHeld.1))).trans (hHeld.1)
             have s6:=(hb.cell (World.block_lt_of_cell? _ _ (hHeld.2.1))).trans (hHeld.2.1)
             have s7:=(hb.cell (World.block_lt_of_cell? _ _ (hHeld.2.2.1))).trans (hHeld.2.2.1)
             have s8:=(hb.cell (World.block_lt_of_cell? _ _ (hHeld.2.2.2))).trans (hHeld.2.2.2)
             refine ⟨_,rfl,?_⟩
             replace a6:=rB a6 hb
             replace d8:=rB d8 hb
             replace a1:=kB a1 hb
             replace a3:=kB a3 hb
             replace a4:=kB a4 hb
             replace HB:=bB HB hb
             (try clear hb)
             refine hK.out _ _ ⟨s5,s6,s7,s8⟩ (fun hHeld=>?_)
             clear hK K
             refine nq 187 ?_
             refine pq 10 177 2047 HT_ ?_
             refine pq 11 188 4095 HT_ ?_
             refine pq 12 189 8191 HT_ ?_
             refine pq 13 22 16383 HT_ ?_
             refine pq 14 23 32767 HT_ ?_
             refine done_ (done_of HT_.out (by kernel_rfl)) ?_
             try go_wp2
             replace a6:=A_ (Kd.R_drew a6.out)
             replace d8:=A_ (Kd.R_drew d8.out)
             replace a1:=A_ (blk_drew a1.out)
             replace a3:=A_ (blk_drew a3.out)
             replace a4:=A_ (blk_drew a4.out)
             replace HB:=A_ (below_drew1 HB.out)
             have t3:0 ≤ ((b5):Int):=of_decide_eq_true (by first | (with_reducible assumption) | assumption)
             have t4:(b5) < (a5.length:Int):=of_decide_eq_true (by first | (with_reducible assumption) | assumption)
             obtain ⟨h4,H3,o4,o5⟩:=at_T23 (Kd.R_reads' d8.out).2.2 (b5) t3 t4
             cases H3
             replace t3:=eq_true t3
             replace t4:=eq_true t4
             have t5:0 ≤ (a9:Int):=of_decide_eq_true (by first | (with_reducible assumption) | assumption)
             have t6:a9 < (a5.length:Int):=of_decide_eq_true (by first | (with_reducible assumption) | assumption)
             obtain ⟨A6,H4,o6,o7⟩:=at_T23 (Kd.R_reads' d8.out).2.2 a9 t5 t6
             obtain rfl:h4 = A6:=(by injection H4)
             replace t5:=eq_true t5
             replace t6:=eq_true t6
             refine start_ (n:=15) (S:=fun w'=>w'.cell? (h4.add (((b5)).toNat * 2)) = some (.int .i64 ((rd_T23 a5 (b5)).f0)) ∧ w'.cell? ⟨(h4.add (((b5)).toNat * 2)).block,(h4.add (((b5)).toNat * 2)).off + 1,none⟩ = some (.int .i64 ((rd_T23 a5 (b5)).f1)) ∧ w'.cell? (h4.add ((a9).toNat * 2)) = some (.int .i64 ((rd_T23 a5 a9).f0)) ∧ w'.cell? ⟨(h4.add ((a9).toNat * 2)).block,(h4.add ((a9).toNat * 2)).off + 1,none⟩ = some (.int .i64 ((rd_T23 a5 a9).f1))) (ds:=[]) (ba 15 0) (by kernel_rfl) rfl rfl ⟨o4,o5,o6,o7⟩ (fun hHeld=>?_);refine with_tabW numnahlaw07_SharesSums.tab27 numnahlaw07_SharesSums.bits27 (fun HT_ HW_=>?_)
             generalize L2.drew = P6 at a6 d8 a1 a3 a4 HB o4 o5 o6 o7 hHeld ⊢
             refine pq 0 191 1 HT_ ?_
             refine pq 1 192 3 HT_ ?_
             refine pq 2 193 7 HT_ ?_
             refine pq 3 194 15 HT_ ?_
             refine pq 5 196 47 HT_ ?_
             refine pq 6 197 111 HT_ ?_
             refine pq 7 198 239 HT_ ?_
             refine tq 4 195 255 HT_ HW_ hHeld ?_
             refine tq 8 199 511 HT_ HW_ hHeld ?_
             refine oq 9 200 1023 HT_ (fun K hK=>?_)
             refine goes_ Try.func51 (by kernel_rfl) rfl #[.agg #[.int .i64 ((rd_T23 a5 (b5)).f0),.int .i64 ((rd_T23 a5 (b5)).f1)],.agg #[.int .i64 ((rd_T23 a5 a9).f0),.int .i64 ((rd_T23 a5 a9).f1)]] (by rfl) rfl rfl (by (try simp only [List.map_toArray,List.map_cons,List.map_nil]);first | done | (simp only [l7];rfl) | rfl | (simp only [List.length_drop,List.length_take];rfl)) ?_
             with_reducible refine (shares_Compare.calls k6 ((rd_T23 a5 (b5)).f0) ((rd_T23 a5 (b5)).f1) ((rd_T23 a5 a9).f0) ((rd_T23 a5 a9).f1) n5 j9 _ P3.out).mono ?_
             rintro e P7 ⟨rfl,hb⟩
             have s5:=(hb.cell (World.block_lt_of_cell? _ _ (hHeld.1))).trans (hHeld.1)
             have s6:=(hb.cell (World.block_lt_of_cell? _ _ (hHeld.2.1))).trans (hHeld.2.1)
             have s7:=(hb.cell (World.block_lt_of_cell? _ _ (hHeld.2.2.1))).trans (hHeld.2.2.1)
             have s8:=(hb.cell (World.block_lt_of_cell? _ _ (hHeld.2.2.2))).trans (hHeld.2.2.2)
             refine ⟨_,rfl,?_⟩
             replace a6:=rB a6 hb
             replace d8:=rB d8 hb
             replace a1:=kB a1 hb
             replace a3:=kB a3 hb
             replace a4:=kB a4 hb
             replace HB:=bB HB hb
             (try clear hb)
             refine hK.out _ _ ⟨s5,s6,s7,s8⟩ (fun hHeld=>?_)
             clear hK K
             refine nq 200 ?_
             refine pq 10 190 2047 HT_ ?_
             refine pq 11 201 4095 HT_ ?_
             refine pq 12 202 8191 HT_ ?_
             refine pq 13 24 16383 HT_ ?_
             refine pq 14 25 32767 HT_ ?_
             refine done_ (done_of HT_.out (by kernel_rfl)) ?_
             try go_wp2
             go_roundg k6
             case measure=>have:=l9.out;have:=m2.out;have:=q2.out;have:=q9.out;have:=F6.out;have:=N2.out;omega
             case rel=>exact ⟨(wrap64 (a9 + 1)),(by first | rfl | (simp;done) | (simp [*];done)),H',⟨by have:=l9.out;have:=m2.out;have:=q2.out;have:=q9.out;have:=F6.out;have:=N2.out;omega⟩,⟨by (with_reducible repeat (first | apply Kd.R_alloc | apply Kd.R_drewN | apply Kd.R_drew));exact a6.out⟩,⟨by (with_reducible repeat (first | apply Kd.R_alloc | apply Kd.R_drewN | apply Kd.R_drew));exact d8.out⟩,⟨by (with_reducible repeat (first | refine blk_drewN ?_ _ | refine blk_drew ?_ | refine blk_alloc ?_ _));exact a1.out⟩,⟨by (with_reducible repeat (first | refine blk_drewN ?_ _ | refine blk_drew ?_ | refine blk_alloc ?_ _));exact a3.out⟩,⟨by (with_reducible repeat (first | refine blk_drewN ?_ _ | refine blk_drew ?_ | refine blk_alloc ?_ _));exact a4.out⟩,⟨by repeat (first | (with_reducible first | exact HB.out | apply below_alloc | apply pw_below_drewN | apply below_drew1 | refine below_set ?_ e4.out | refine below_set ?_ e5.out | refine below_set ?_ e6.out) | exact HB.out)⟩⟩
def numnahlaw07_SharesSums.Pure:Prop:=∀ (l0:List Int),l0.length ≤ maxLen → l0.length * 8 ≤ 140737488351232 → (∀ x ∈ l0,(Lit.int .i64 x).wf = true) → ∃ k,numnahlaw07_SharesSums.f k l0 = some true
theorem numnahlaw07_SharesSums.walk (P:numnahlaw07_SharesSums.Pure) (a0:Option Addr) (u6 t7:Nat) (z0:List Int) (w:World) (w0:(a0 = none ∧ u6 = 0 ∧ t7 = 0 ∧ z0 = []) ∨ ∃ x,a0 = some x ∧ u6 ≤ t7 ∧ t7 ≤ maxLen ∧ z0.length = t7 ∧ (∀ i,i < z0.length → w.cell? (x.add i) = some (.int .i64 (z0.getD i 0))) ∧ ∀ n ∈ z0,(Lit.int .i64 n).wf = true) (y0:u6 * 8 ≤ 140737488351232) :
  Calls Try.prog 14 #[.slice a0 u6 t7] w fun e w'=>e = .returned (.bool true) ∧ Below w.heap.size w w':=by
 obtain ⟨l0,rfl,H5,P8,P9,H6⟩:=ReadsInt.ofRowC w0
 obtain ⟨k,h⟩:=P l0 P8 y0 P9
 refine (numnahlaw07_SharesSums.calls k _ _ l0 true w (Kd.C_of_reads (d:=(0:Int)) (h1:=fun _=>rfl) H5) H6 h rfl).mono ?_
 rintro e w' ⟨rfl,hd⟩
 exact ⟨rfl,hd⟩
end Go.Proofs.Ytjohcjfmlhihbaa.G
set_option linter.unusedSectionVars false
namespace Go.Proofs.Ytjohcjfmlhihbaa.P
open Go Go.RowKit Go.Proofs.Ytjohcjfmlhihbaa.G
open Go.Proofs.YtjohcjfmlhihbaaW.PrintWords Go.Proofs.YtjohcjfmlhihbaaW.PrintMore
theorem encL_append (x y:List Rat):encL (x ++ y) = encL x ++ encL y:=by unfold encL;rw [List.map_append]
section
variable {x:List Rat} (hl:x.length ≤ 5) (hx:∀ q ∈ x,Sm 1000000 20 q)
include hl hx
theorem sums_l3 {s:List Rat} (hs:s.Perm x) (ho:s.Pairwise (· ≤ ·)):∀ (d i:Nat),i + d = max 1 x.length → 1 ≤ i → Ev (fun k=>numnahlaw07_SharesSums.l3 k (encL x) (encL s) (i:Int)) true:=by
 have hsl:=hs.length_eq
 intro d
 induction d with
 | zero =>
  intro i hi h1
  refine Ev.step (f:=fun k=>(numnahlaw07_awake.f k).bind fun t=>some t) (fun k=>?_) (Ev.bind ev_awake (Ev.now _))
  rw [numnahlaw07_SharesSums.l3,encL_length,if_neg (by omega)]
 | succ d ih =>
  intro i hi h1
  obtain ⟨j,rfl⟩:∃ j,i = j + 1:=⟨i - 1,by omega⟩
  have h2:j + 1 < x.length:=by omega
  have h3:j < x.length:=by omega
  have g2:j + 1 < s.length:=by omega
  have g3:j < s.length:=by omega
  have sm:∀ {i} (h:i < s.length),Sm 1000000 20 s[i]:=fun h=>hx _ (hs.mem_iff.1 (List.getElem_mem h))
  have c1:=ev_Compare (hx _ (List.getElem_mem h3)) (hx _ (List.getElem_mem h2))
  have c2:=ev_Compare (hx _ (List.getElem_mem h2)) (hx _ (List.getElem_mem h3))
  have c3:=ev_Compare (sm g3) (sm g2)
  have hle:cmpR s[j] s[j + 1] ≤ 0:=(cmpR_le _ _).2 (List.pairwise_iff_getElem.1 ho j (j + 1) g3 g2 (by omega))
  obtain ⟨K1,e1⟩:=c1
  obtain ⟨K2,e2⟩:=c2
  obtain ⟨K3,e3⟩:=c3
  obtain ⟨K4,e4⟩:=ih (j + 1 + 1) (by omega) (by omega)
  refine ⟨K1 + K2 + K3 + K4 + 1,fun k hk=>?_⟩
  obtain ⟨m,rfl⟩:∃ m,k = m + 1:=⟨k - 1,by omega⟩
  have f1:=e1 m (by omega)
  have f2:=e2 m (by omega)
  have f3:=e3 m (by omega)
  have f4:=e4 m (by omega)
  have ew:wrap64 (((j + 1:Nat):Int) - 1) = (j:Int):=by unfold wrap64;omega
  have en:cmpR x[j] x[j + 1] = wrap64 (-cmpR x[j + 1] x[j]):=by
   rw [← cmpR_neg]
   have:-1 ≤ cmpR x[j] x[j + 1] ∧ cmpR x[j] x[j + 1] ≤ 1:=by unfold cmpR;split <;> (try split) <;> omega
   exact (wrap_id (by omega) (by omega)).symm
  show numnahlaw07_SharesSums.l3 (m + 1) _ _ _ = _
  rw [numnahlaw07_SharesSums.l3,encL_length,ew,if_pos (by omega),if_pos (by omega),if_pos (by omega),if_pos (by omega),rdE h3,rdE h2,encL_length]
  simp only [encQ,f1,f2,Option.bind_some]
  rw [if_pos (by omega),if_pos (by omega),rdE g3,rdE g2]
  simp only [encQ,f3,Option.bind_some,if_true]
  rw [if_pos en,if_neg (by omega),wrap_succ (by omega)]
  exact f4
theorem sums_l2 {back:List Rat} (hb:back = x.reverse):∀ (d i:Nat),i + d = x.length → Ev (fun k=>numnahlaw07_SharesSums.l2 k (encL x) (encL back) (encL (x ++ (x.take i).map fun q=>-q)) (i:Int)) true:=by
 intro d
 induction d with
 | zero =>
  intro i hi
  rw [List.take_of_length_le (by omega)]
  have hbl:back.length ≤ 10:=by rw [hb,List.length_reverse];omega
  have hbs:∀ q ∈ back,Sm 1000000 20 q:=fun q hq=>hx q (by rw [hb] at hq;exact List.mem_reverse.1 hq)
  have hnl:(x ++ x.map fun q=>-q).length ≤ 10:=by rw [List.length_append,List.length_map];omega
  have hns:∀ q ∈ x ++ x.map fun q=>-q,Sm 1000000 20 q:=fun q hq=>by
   rcases List.mem_append.1 hq with hq | hq
   ·exact hx q hq
   ·obtain ⟨p,hp,rfl⟩:=List.mem_map.1 hq
    exact (hx p hp).neg
  have tb:tot back = tot x:=by rw [hb];exact tot_perm (List.reverse_perm x)
  have tn:tot (x ++ x.map fun q=>-q) = 0:=by
   rw [tot_append]
   have:=tot_add (fun q=>q) (fun q=>-q) x
   rw [List.map_id'] at this
   rw [← this]
   have e:(x.map fun q=>q + -q) = x.map fun _=>0:=List.map_congr_left fun q _=>by grind
   rw [e,tot_const,Rat.mul_zero]
  have a:=ev_Sum (by omega) hx
  have b:=ev_Sum hbl hbs
  have c:=ev_Sum hnl hns
  obtain ⟨s,hs,ho,es⟩:=ev_Sorted (by omega) hx
  have hsl:=hs.length_eq
  obtain ⟨t,htp,hto,et⟩:=ev_Sorted (x:=s) (by omega) (fun q hq=>hx q (hs.mem_iff.1 hq))
  have hts:t = s:=List.Perm.eq_of_pairwise (le:=(· ≤ ·)) (fun a b _ _ h1 h2=>by grind) hto ho htp
  rw [hts] at et
  rw [tb] at b
  rw [tn] at c
  have hsame:=ev_same (a:=encL s) (b:=encL s) (by rw [encL_length];omega)
  rw [decide_eq_true rfl] at hsame
  have hl3:=sums_l3 hl hx hs ho (max 1 x.length - 1) 1 (by omega) (by omega)
  obtain ⟨K1,e1⟩:=a
  obtain ⟨K2,e2⟩:=b
  obtain ⟨K3,e3⟩:=c
  obtain ⟨K4,e4⟩:=es
  obtain ⟨K5,e5⟩:=et
  obtain ⟨K6,e6⟩:=hsame
  obtain ⟨K7,e7⟩:=hl3
  refine ⟨K1 + K2 + K3 + K4 + K5 + K6 + K7 + 2,fun k hk=>?_⟩
  obtain ⟨m,rfl⟩:∃ m,k = m + 1 + 1:=⟨k - 2,by omega⟩
  have f1:=e1 (m + 1) (by omega)
  have f2:=e2 (m + 1) (by omega)
  have f3:=e3 (m + 1) (by omega)
  have f4:=e4 (m + 1) (by omega)
  have f5:=e5 (m + 1) (by omega)
  have f6:=e6 (m + 1) (by omega)
  have f7:=e7 m (by omega)
  have z:(0:Rat).num = 0 ∧ ((0:Rat).den:Int) = 1:=⟨rfl,rfl⟩
  show numnahlaw07_SharesSums.l2 (m + 1 + 1) _ _ _ _ = _
  rw [numnahlaw07_SharesSums.l2,encL_length,if_neg (by omega)]
  simp only [f1,f2,f3,f4,f5,f6,Option.bind_some,if_true,beq_self_eq_true,Bool.not_true,Bool.or_self,Bool.false_eq_true,if_false,numnahref07_Whole.f,z.1,z.2,encL_length,hsl]
  rw [numnahlaw07_SharesSums.j4,if_neg (by simp)]
  exact f7
 | succ d ih =>
  intro i hi
  have hil:i < x.length:=by omega
  have hs:=hx _ (List.getElem_mem hil)
  have hn:=hs.num
  refine Ev.step (fun k=>?_) (ih (i + 1) (by omega))
  have hlen:(encL (x ++ (x.take i).map fun q=>-q)).length < 8796093022208:=by rw [encL_length,List.length_append,List.length_map,List.length_take];omega
  have hneg:wrap64 (-x[i].num) = (-x[i]).num:=by rw [Rat.neg_num];exact wrap_id (by omega) (by omega)
  have e:encL (x ++ (x.take i).map fun q=>-q) ++ [(⟨(-x[i]).num,(x[i].den:Int)⟩:S23)] = encL (x ++ (x.take (i + 1)).map fun q=>-q):=by
   rw [List.take_succ_eq_append_getElem hil,List.map_append,← List.append_assoc,encL_append _ (List.map _ [x[i]])]
   rfl
  rw [numnahlaw07_SharesSums.l2,encL_length,if_pos (by omega),if_pos (by omega),if_pos hlen,rdE hil]
  simp only [encQ,hneg]
  rw [e,wrap_succ (by omega)]
theorem sums_l1:∀ (d:Nat) (i:Int) (back:List Rat),i + 1 = (d:Int) → d ≤ x.length → back = ((x.drop d).reverse) → Ev (fun k=>numnahlaw07_SharesSums.l1 k (encL x) (encL back) i) true:=by
 intro d
 induction d with
 | zero =>
  intro i back hi _ hb
  have hf:numnahlaw07_fracs.f (encL x) = some (encL x):=by rw [fracs_f,List.take_of_length_le (by rw [encL_length];omega)]
  have:=sums_l2 hl hx (back:=back) (by rw [hb,List.drop_zero]) x.length 0 (by omega)
  rw [List.take_zero,List.map_nil,List.append_nil] at this
  refine Ev.step (fun k=>?_) this
  rw [numnahlaw07_SharesSums.l1,if_neg (by omega),hf]
  rfl
 | succ d ih =>
  intro i back hi hd hb
  have hid:i = (d:Int):=by omega
  subst hid
  have hil:d < x.length:=by omega
  have hbl:(encL back).length < 8796093022208:=by rw [encL_length,hb,List.length_reverse,List.length_drop];omega
  refine Ev.step (fun k=>?_) (ih ((d:Int) - 1) (back ++ [x[d]]) (by omega) (by omega) (by rw [hb,List.drop_eq_getElem_cons hil,List.reverse_cons]))
  rw [numnahlaw07_SharesSums.l1,if_pos (by omega),if_pos (by omega),encL_length,if_pos (by omega),if_pos hbl,rdE hil,wrap_id (x:=(d:Int) - 1) (by omega) (by omega),encL_append]
  rfl
end
theorem sums_l0 (of:List Int) (hof:of.length ≤ 17592186044416):∀ (d:Nat) (i:Nat) (x:List Rat),d + x.length = 5 → i ≤ of.length + 1 → (∀ q ∈ x,Sm 1000000 20 q) → Ev (fun k=>numnahlaw07_SharesSums.l0 k of (encL x) (i:Int)) true:=by
 intro d
 have stop:∀ (i:Nat) (x:List Rat),x.length ≤ 5 → (∀ q ∈ x,Sm 1000000 20 q) → Ev (fun k=>numnahlaw07_SharesSums.j1 k of (encL x) [] (i:Int) false) true:=fun i x hx hs=>by
  have:=sums_l1 hx hs x.length ((x.length:Int) - 1) [] (by omega) (by omega) (by rw [List.drop_length];rfl)
  refine Ev.step (fun k=>?_) this
  rw [numnahlaw07_SharesSums.j1,if_neg (by decide),encL_length,wrap_id (x:=(x.length:Int) - 1) (by omega) (by omega)]
  rfl
 induction d with
 | zero =>
  intro i x hd hi hs
  refine Ev.step (fun k=>?_) (stop i x (by omega) hs)
  rw [numnahlaw07_SharesSums.l0,encL_length,decide_eq_false (by omega:¬ (x.length:Int) < 5),ite_self]
 | succ d ih =>
  intro i x hd hi hs
  by_cases hc:i + 1 < of.length
  ·obtain ⟨a,a0,a1,ha⟩:=mod_some of[i] (n:=2001) (by omega) (by omega)
   obtain ⟨b,b0,b1,hb⟩:=mod_some of[i + 1] (n:=20) (by omega) (by omega)
   obtain ⟨c,hcc⟩:∃ c:Nat,1 + b = (c:Int):=⟨(1 + b).toNat,by omega⟩
   have hq:Sm 1000000 20 (mkRat (a - 1000) c):=⟨Nat.le_trans (num_le _ _) (by omega),Nat.le_trans (den_le (by omega)) (by omega)⟩
   have hf:=ev_frac (a - 1000) c (by omega) (by omega) (by omega)
   have hn:=ih (i + 2) (x ++ [mkRat (a - 1000) c]) (by simp;omega) (by omega) (fun q hq'=>by
    rcases List.mem_append.1 hq' with hq' | hq'
    ·exact hs q hq'
    ·rw [List.mem_singleton.1 hq'];exact hq)
   obtain ⟨K1,e1⟩:=hf
   obtain ⟨K2,e2⟩:=hn
   refine ⟨K1 + K2 + 2,fun k hk=>?_⟩
   obtain ⟨m,rfl⟩:∃ m,k = m + 1 + 1:=⟨k - 2,by omega⟩
   have f1:=e1 m (by omega)
   have f2:=e2 m (by omega)
   show numnahlaw07_SharesSums.l0 (m + 1 + 1) _ _ _ = _
   have c1:((i + 1:Nat):Int) < (of.length:Int):=by omega
   have c2:decide (((encL x).length:Int) < 5) = true:=by rw [encL_length];exact decide_eq_true (by omega)
   have c3:(0:Int) ≤ (i:Int):=by omega
   have c4:(i:Int) < (of.length:Int):=by omega
   have c5:(0:Int) ≤ ((i + 1:Nat):Int):=by omega
   have r1:rd of (i:Int) = of[i]:=rd_get (by omega)
   have r2:rd of ((i + 1:Nat):Int) = of[i + 1]:=rd_get hc
   have v1:wrap64 (a - 1000) = a - 1000:=wrap_id (by omega) (by omega)
   have v2:c < 9223372036854775808:=by omega
   have v3:(encL x).length < 8796093022208:=by rw [encL_length];omega
   have b2:i < 9223372036854775807:=by omega
   have w2:wrap64 ((i:Int) + 2) = ((i + 2:Nat):Int):=by clear v1;unfold wrap64;omega
   have w1:wrap64 ((i:Int) + 1) = ((i + 1:Nat):Int):=wrap_succ b2
   rw [numnahlaw07_SharesSums.l0,w1,if_pos c1,c2,numnahlaw07_SharesSums.j1,if_pos rfl,if_pos c3,if_pos c4,r1,ha,Option.bind_some,w1,if_pos c5,if_pos c1,r2,hb,Option.bind_some]
   rw [v1,hcc,wrap_nat v2,ref_reduced]
   simp only [f1,Option.bind_some]
   rw [if_pos v3,w2]
   have e:encL x ++ [(⟨(mkRat (a - 1000) c).num,((mkRat (a - 1000) c).den:Int)⟩:S23)] = encL (x ++ [mkRat (a - 1000) c]):=by rw [encL_append];rfl
   rw [e]
   exact f2
  ·refine Ev.step (fun k=>?_) (stop i x (by omega) hs)
   rw [numnahlaw07_SharesSums.l0,wrap_succ (i:=i) (by omega),if_neg (by omega)]
theorem sums_Pure:numnahlaw07_SharesSums.Pure:=by
 intro l0 _ h8 _
 exact Ev.rounds (sums_l0 l0 (by omega) 5 0 [] rfl (by omega) (fun q hq=>by cases hq))
end Go.Proofs.Ytjohcjfmlhihbaa.P
namespace Go.Proofs.YtjohcjfmlhihbaaW.PrintWords
open Go.ChangeShapes Go.WideShapes
theorem sized_ints {H:Type} {enc:TypeId × Value → H} {P:Program} {W:World} {base:Nat} {spare:Nat → Bool} {held:Bool} {t e:TypeId} {k:IntKind} {a:Option Addr} {len cap:Nat} {d:DataW H} {ps:List MemPlace} {ts:List TypeId} {ds:List (DataW H)} {j:Nat}
  (hsz:(DataW.weightsEach P ts ds).all (· ≤ reachBytes) = true) (ht:ts[j]? = some t) (hd:ds[j]? = some d) (hu:P.underlying t = some (.slice e)) (he:P.underlying e = some (.int k)) (hc:P.cellsOf e = 1) {B:Nat} (hB:P.bytesOf e = B)
  (h:DataW.Trod enc P W base spare held t (.slice a len cap) d ps):len * B ≤ 140737488351232:=by
 obtain ⟨fuel,hf⟩:=h
 rcases open_ints hu he hc hf with ⟨hcs,_⟩ | ⟨x,l,c,zs,hcs,_,hl,_,hz,hx,_,_⟩
 ·simp [Value.cells] at hcs
  obtain ⟨rfl,rfl,rfl⟩:=hcs
  simp
 ·simp [Value.cells] at hcs
  obtain ⟨rfl,rfl,rfl⟩:=hcs
  obtain ⟨hx,_⟩:=Prod.mk.inj hx
  subst hx
  have z:=sized_slice hsz ht hd hu
  rw [hB] at z
  have hl2:len ≤ zs.length:=by
   rw [hz]
   split
   ·exact hl
   ·exact Nat.le_refl _
  have h1:(lits (H:=H) k (zs.take len)).length + (lits (H:=H) k (zs.drop len)).length = zs.length:=by
   simp [lits]
   omega
  rw [h1] at z
  exact Nat.le_trans (Nat.mul_le_mul_right _ hl2) z
end Go.Proofs.YtjohcjfmlhihbaaW.PrintWords
