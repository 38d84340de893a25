/- Several texts, joined. -/
import Derived.WalkKit
import Derived.ProofKit
import Derived.OpenShut
import Derived.ShutString
import Derived.ChangeOld
import Derived.ChangeSame
import Derived.Below
import Derived.SizedLaws
import Derived.KernelRfl
import Derived.Test.YtjohcjfmlhihbaaRows
import Derived.Test.YtjohcjfmlhihbaaQE4
namespace Go.Proofs.Ytjohcjfmlhihbaa.Row
end Go.Proofs.Ytjohcjfmlhihbaa.Row
set_option linter.unusedVariables false
set_option linter.unusedSimpArgs false
namespace Go.Proofs.Ytjohcjfmlhihbaa.Row
open Go Go.ChangeShapes Go.WideShapes Go.ChangeAt Go.RowKit Go.Proofs.Ytjohcjfmlhihbaa.G Go.Proofs.YtjohcjfmlhihbaaW.PrintWords
theorem add_add (a:Addr) (n:Nat):(a.add n).add 1 = a.add (n + 1):=by
 unfold Addr.add
 by_cases h:n = 0
 ·subst h;rfl
 ·rw [if_neg h,if_neg (by omega),if_neg (by omega)]
  simp only [Nat.add_assoc]
section
variable {H:Type} {enc:TypeId × Value → H} {w:World} {base:Nat} {spare:Nat → Bool} {held:Bool} {fuel:Nat} {cs:List Value} {x:DataW H × List MemPlace}
theorem first_of {cs':List Value} {v:Value} {m:Nat} (h:(cs'.drop m).take 1 = [v]):cs'[m]? = some v:=by
 have e3:=congrArg (fun l:List Value=>l[0]?) h
 simp only [List.getElem?_take,List.getElem?_drop,List.getElem?_cons_zero] at e3
 simpa using e3
theorem open_fracs (h:DataW.trod enc Try.prog w base spare held fuel 35 cs = some x):∃ (A:Option Addr) (l:List S23) (c:Nat),cs = [.slice A l.length c] ∧ l.length ≤ c ∧ (∀ e ∈ l,(Lit.int .i64 e.f0).wf = true ∧ (Lit.int .i64 e.f1).wf = true) ∧ Kd.C k23 w A l.length l:=by
 rcases DataW.trod_slice Try.underlying35 h with ⟨rfl,_⟩ | ⟨a,len,cap,elems,rest,n,_,rfl,_,hb,hl,hm,hlen,hel,_,_⟩
 ·exact ⟨none,[],0,rfl,Nat.le_refl _,fun e he=>by simp at he,rfl,by decide,fun h=>by simp at h⟩
 ·have hm':cap ≤ 9223372036854775807:=hm
  have c23:Try.prog.cellsOf 23 = 2:=by kernel_rfl
  have c3:Try.prog.cellsOf 3 = 1:=by kernel_rfl
  have key:∀ i,i < len → ∃ e:S23,(w.cell? (a.add (i * 2)) = some (.int .i64 e.f0) ∧ w.cell? (a.add (i * 2 + 1)) = some (.int .i64 e.f1)) ∧ (Lit.int .i64 e.f0).wf = true ∧ (Lit.int .i64 e.f1).wf = true:=by
   intro i hi
   have h0:=hel i hi
   rw [List.getElem?_eq_getElem (by omega),Option.bind_eq_some_iff,c23] at h0
   obtain ⟨cs',h1,h2⟩:=h0
   obtain ⟨_,hcl,hcc⟩:=World.cells?_some h1
   obtain ⟨y0,y1,m1,_,_,e0,e1⟩:=trod_struct2 Try.underlying23 h2
   simp only [c3] at e0 e1
   obtain ⟨x0,q0,_,w0⟩:=DataW.trod_int Try.underlying3 e0
   obtain ⟨x1,q1,_,w1⟩:=DataW.trod_int Try.underlying3 e1
   have g0:cs'[0]? = some (.int .i64 x0):=first_of q0
   have g1:cs'[1]? = some (.int .i64 x1):=first_of q1
   have k0:=hcc 0 (by omega)
   have k1:=hcc 1 (by omega)
   refine ⟨⟨x0,x1⟩,⟨?_,?_⟩,w0,w1⟩
   ·have e:(a.add (i * 2)).add 0 = a.add (i * 2):=rfl
    rw [e] at k0;exact k0.trans g0
   ·have e:(a.add (i * 2)).add 1 = a.add (i * 2 + 1):=add_add a (i * 2)
    rw [e] at k1;exact k1.trans g1
  obtain ⟨f,hf⟩:∃ f:Nat → S23,∀ i,i < len → (w.cell? (a.add (i * 2)) = some (.int .i64 (f i).f0) ∧ w.cell? (a.add (i * 2 + 1)) = some (.int .i64 (f i).f1)) ∧ (Lit.int .i64 (f i).f0).wf = true ∧ (Lit.int .i64 (f i).f1).wf = true :=
   ⟨fun i=>if h:i < len then Classical.choose (key i h) else ⟨0,0⟩,fun i hi=>by simp only [dif_pos hi];exact Classical.choose_spec (key i hi)⟩
  have hll:((List.range len).map f).length = len:=by simp
  refine ⟨some a,(List.range len).map f,cap,by rw [hll],by rw [hll];exact hl,?_,rfl,by rw [hll];omega,fun _=>⟨a,rfl,fun j p hj=>?_⟩⟩
  ·intro e he
   rw [List.mem_map] at he
   obtain ⟨i,hi,rfl⟩:=he
   exact (hf i (List.mem_range.1 hi)).2
  rw [List.getElem?_map,Option.map_eq_some_iff] at hj
  obtain ⟨i,hi,rfl⟩:=hj
  have hil:=(List.getElem?_eq_some_iff.1 hi).1
  rw [List.length_range] at hil
  rw [List.getElem?_range hil,Option.some.injEq] at hi
  subst hi
  refine ⟨[.int .i64 (f j).f0,.int .i64 (f j).f1],rfl,k23_mk w (f j),fun i u hu=>?_⟩
  show w.cell? (a.add (j * 2 + i)) = _
  rcases i with _ | _ | i
  ·simp only [List.getElem?_cons_zero,Option.some.injEq] at hu;subst hu;exact (hf j hil).1.1
  ·simp only [List.getElem?_cons_succ,List.getElem?_cons_zero,Option.some.injEq] at hu;subst hu;exact (hf j hil).1.2
  ·simp at hu
set_option maxRecDepth 100000 in
theorem open_fracs1 {r:Reach} {b0:Nat} {v:Value} {d:DataW H} {p:List MemPlace} (hv:Value.okWide Try.prog w r b0 35 v) (h:DataW.Trod enc Try.prog w base spare held 35 v d p):∃ (A:Option Addr) (l:List S23) (c:Nat),v = .slice A l.length c ∧ l.length ≤ c ∧ (∀ e ∈ l,(Lit.int .i64 e.f0).wf = true ∧ (Lit.int .i64 e.f1).wf = true) ∧ Kd.C k23 w A l.length l:=by
 obtain ⟨A,len,cap,rfl⟩:=okWide_slice Try.underlying35 hv
 obtain ⟨m,hm⟩:=h
 obtain ⟨A',l,c,e,r⟩:=open_fracs hm
 have e2:[Value.slice A len cap] = [.slice A' l.length c]:=e
 injection e2 with e2 _
 exact ⟨A',l,c,e2,r⟩
end
end Go.Proofs.Ytjohcjfmlhihbaa.Row
namespace Go.Proofs.Ytjohcjfmlhihbaa.P
open Go Go.RowKit Go.Proofs.Ytjohcjfmlhihbaa.G
open Go.Proofs.YtjohcjfmlhihbaaW.PrintWords Go.Proofs.YtjohcjfmlhihbaaW.PrintMore
theorem wrap_succ {i:Nat} (h:i < 9223372036854775807):wrap64 ((i:Int) + 1) = ((i + 1:Nat):Int):=by unfold wrap64;omega
structure IsCl (l:List Int):Prop where
 one:1 ≤ l.length
 ten:l.length ≤ 10
 mem:∀ x ∈ l,0 ≤ x ∧ x ≤ 1000
instance (l:List Int):Decidable (IsCl l):=decidable_of_iff (1 ≤ l.length ∧ l.length ≤ 10 ∧ ∀ x ∈ l,0 ≤ x ∧ x ≤ 1000) ⟨fun h=>⟨h.1,h.2.1,h.2.2⟩,fun h=>⟨h.1,h.2,h.3⟩⟩
end Go.Proofs.Ytjohcjfmlhihbaa.P
namespace Go.Proofs.Ytjohcjfmlhihbaa.P
open Go Go.RowKit Go.Proofs.Ytjohcjfmlhihbaa.G
open Go.Proofs.YtjohcjfmlhihbaaW.PrintWords Go.Proofs.YtjohcjfmlhihbaaW.PrintMore
structure Sm (A D:Nat) (q:Rat):Prop where
 num:q.num.natAbs ≤ A
 den:q.den ≤ D
theorem Sm.mono {A D B E:Nat} {q:Rat} (h:Sm A D q) (h1:A ≤ B) (h2:D ≤ E):Sm B E q:=⟨Nat.le_trans h.num h1,Nat.le_trans h.den h2⟩
theorem Sm.int {A:Nat} {n:Int} (h:n.natAbs ≤ A):Sm A 1 (n:Rat):=⟨by rw [whole_num];exact h,by rw [whole_den];exact Nat.le_refl _⟩
theorem Sm.zero:Sm 0 1 (0:Rat):=⟨Nat.le_refl _,Nat.le_refl _⟩
theorem Sm.add {A D B E:Nat} {p q:Rat} (h:Sm A D p) (k:Sm B E q):Sm (A * E + B * D) (D * E) (p + q) :=
 ⟨Nat.le_trans (add_num_le p q) (Nat.add_le_add (Nat.mul_le_mul h.num k.den) (Nat.mul_le_mul k.num h.den)),
  Nat.le_trans (Nat.le_of_dvd (Nat.mul_pos (den_pos p) (den_pos q)) (add_den_dvd p q)) (Nat.mul_le_mul h.den k.den)⟩
theorem Sm.half {A D:Nat} {q:Rat} (h:Sm A D q):Sm A (D * 2) (q / 2):=by
 have e:q / 2 = mkRat q.num (q.den * 2):=(mk_over q (n:=2) (by omega)).symm
 rw [e]
 exact ⟨Nat.le_trans (num_le _ _) h.num,Nat.le_trans (den_le (by have:=den_pos q;omega)) (Nat.mul_le_mul_right _ h.den)⟩
theorem Sm.fits {A D B E:Nat} {p q:Rat} (h:Sm A D p) (k:Sm B E q) (h1:A * E + B * D < 9223372036854775808) (h2:D * E < 9223372036854775808):Fits p q :=
 ⟨Nat.lt_of_le_of_lt (Nat.add_le_add (Nat.mul_le_mul h.num k.den) (Nat.mul_le_mul k.num h.den)) h1,Nat.lt_of_le_of_lt (Nat.mul_le_mul h.den k.den) h2⟩
end Go.Proofs.Ytjohcjfmlhihbaa.P
namespace Go.Proofs.Ytjohcjfmlhihbaa.P
open Go Go.RowKit Go.Proofs.Ytjohcjfmlhihbaa.G
open Go.Proofs.YtjohcjfmlhihbaaW.PrintWords Go.Proofs.YtjohcjfmlhihbaaW.PrintMore
def encQ (q:Rat):S23:=⟨q.num,(q.den:Int)⟩
def encL (l:List Rat):List S23:=l.map encQ
theorem encL_length (l:List Rat):(encL l).length = l.length:=List.length_map _
theorem rdE {l:List Rat} {i:Nat} (h:i < l.length):rd_T23 (encL l) (i:Int) = encQ l[i]:=by
 unfold rd_T23 encL
 simp [h]
def nI (l:List Nat):List Int:=l.map Int.ofNat
theorem nI_length (l:List Nat):(nI l).length = l.length:=List.length_map _
theorem rdN {l:List Nat} {i:Nat} (h:i < l.length):rd (nI l) (i:Int) = (l[i]:Int):=by
 unfold rd nI
 simp [h]
section
variable {q:List Rat} (hf:∀ x ∈ q,∀ y ∈ q,Fits x y) (hn:q.length < 20)
structure On (q:List Rat) (σ:List Nat) (m j:Nat):Prop where
 perm:σ.Perm (List.range q.length)
 ord:∀ a b,a < b → b < m → b ≠ j → q.getD (σ.getD a 0) 0 ≤ q.getD (σ.getD b 0) 0
theorem On.len {q:List Rat} {σ:List Nat} {m j:Nat} (h:On q σ m j):σ.length = q.length:=by rw [h.perm.length_eq,List.length_range]
theorem On.lt {q:List Rat} {σ:List Nat} {m j:Nat} (h:On q σ m j) {i:Nat} (hi:i < σ.length):σ[i] < q.length:=List.mem_range.1 (h.perm.mem_iff.1 (List.getElem_mem hi))
include hf
theorem ev_less {a b:Nat} (ha:a < q.length) (hb:b < q.length):Ev (fun k=>api_Frac_1.f k (a:Int) (b:Int) 0 (encL q)) (cmpR q[a] q[b]):=by
 unfold api_Frac_1.f
 rw [encL_length]
 simp only [if_pos (show (0:Int) ≤ (a:Int) by omega),if_pos (show (a:Int) < (q.length:Int) by omega),if_pos (show (0:Int) ≤ (b:Int) by omega),if_pos (show (b:Int) < (q.length:Int) by omega),rdE ha,rdE hb]
 exact Ev.bind (ev_compare (hf _ (List.getElem_mem ha) _ (List.getElem_mem hb))) (Ev.now _)
include hn
theorem sort_l1 {i:Nat} (hi:i < q.length) (Q:List Nat → Prop)
  (out:∀ σ,On q σ (i + 1) (i + 1) → ∃ τ,Q τ ∧ Ev (fun k=>slices_insertionSortCmpFunc_int.l0 k (nI σ) 0 (q.length:Int) (encL q) ((i + 1:Nat):Int)) (nI τ)) :
  ∀ (j:Nat) (σ:List Nat),j ≤ i → On q σ (i + 1) j → ∃ τ,Q τ ∧ Ev (fun k=>slices_insertionSortCmpFunc_int.l1 k (nI σ) 0 (q.length:Int) (encL q) (i:Int) (j:Int)) (nI τ):=by
 intro j
 induction j with
 | zero =>
  intro σ _ h
  obtain ⟨τ,hτ,he⟩:=out σ ⟨h.perm,fun a b hab hb _=>h.ord a b hab hb (by omega)⟩
  refine ⟨τ,hτ,Ev.step (fun k=>?_) he⟩
  rw [slices_insertionSortCmpFunc_int.l1,if_neg (by omega),wrap_succ (by omega)]
 | succ j ih =>
  intro σ hj h
  have hlen:=h.len
  have hj1:j + 1 < σ.length:=by omega
  have hj0:j < σ.length:=by omega
  have l1:=h.lt hj1
  have l0:=h.lt hj0
  have hev:=ev_less hf l1 l0
  have ew:wrap64 (((j + 1:Nat):Int) - 1) = (j:Int):=by unfold wrap64;omega
  have g1:σ.getD (j + 1) 0 = σ[j + 1]:=by simp [hj1]
  have g0:σ.getD j 0 = σ[j]:=by simp [hj0]
  have v1:q.getD σ[j + 1] 0 = q[σ[j + 1]]:=by simp [l1]
  have v0:q.getD σ[j] 0 = q[σ[j]]:=by simp [l0]
  have start:∀ k,slices_insertionSortCmpFunc_int.l1 (k + 1) (nI σ) 0 (q.length:Int) (encL q) (i:Int) ((j + 1:Nat):Int) = (api_Frac_1.f k ((σ[j + 1]:Nat):Int) ((σ[j]:Nat):Int) 0 (encL q)).bind fun t=>if t < 0 then slices_insertionSortCmpFunc_int.l1 k (((nI σ).set (j + 1) ((σ[j]:Nat):Int)).set j ((σ[j + 1]:Nat):Int)) 0 (q.length:Int) (encL q) (i:Int) (j:Int) else slices_insertionSortCmpFunc_int.l0 k (nI σ) 0 (q.length:Int) (encL q) ((i + 1:Nat):Int):=by
   intro k
   rw [slices_insertionSortCmpFunc_int.l1,ew,nI_length,if_pos (by omega),if_pos (by omega),if_pos (by omega),if_pos (by omega),if_pos (by omega),rdN hj1,rdN hj0,Int.toNat_natCast,Int.toNat_natCast,wrap_succ (by omega)]
  by_cases hlt:q[σ[j + 1]] < q[σ[j]]
  ·obtain ⟨σ',hσ'⟩:∃ σ',σ' = (σ.set (j + 1) σ[j]).set j σ[j + 1]:=⟨_,rfl⟩
   have hget:∀ a,σ'.getD a 0 = if a = j then σ[j + 1] else if a = j + 1 then σ[j] else σ.getD a 0:=by
    intro a
    rw [hσ']
    simp only [List.getD_eq_getElem?_getD,List.getElem?_set]
    by_cases e1:a = j
    ·subst e1;simp [hj0]
    ·rw [if_neg (fun e=>e1 e.symm),if_neg e1]
     by_cases e2:a = j + 1
     ·subst e2;simp [hj1]
     ·rw [if_neg (fun e=>e2 e.symm),if_neg e2]
   have hp:σ'.Perm σ:=by rw [hσ'];exact List.set_set_perm (i:=j + 1) (j:=j) hj1 hj0
   have hon:On q σ' (i + 1) j:=⟨hp.trans h.perm,fun a b hab hb hbj=>by
    rw [hget a,hget b,if_neg hbj]
    by_cases b1:b = j + 1
    ·rw [if_pos b1]
     by_cases a1:a = j
     ·rw [if_pos a1,v1,v0];exact Rat.le_of_lt hlt
     ·rw [if_neg a1,if_neg (by omega),← g0]
      exact h.ord a j (by omega) (by omega) (by omega)
    ·rw [if_neg b1]
     by_cases a1:a = j
     ·rw [if_pos a1,← g1]
      exact h.ord (j + 1) b (by omega) hb (by omega)
     ·rw [if_neg a1]
      by_cases a2:a = j + 1
      ·rw [if_pos a2,← g0]
       exact h.ord j b (by omega) hb (by omega)
      ·rw [if_neg a2]
       exact h.ord a b hab hb b1⟩
   obtain ⟨τ,hτ,he⟩:=ih σ' (by omega) hon
   refine ⟨τ,hτ,Ev.step start (Ev.bind hev ?_)⟩
   refine Ev.congr (fun k=>if_pos ((cmpR_lt _ _).2 hlt)) ?_
   have e:((nI σ).set (j + 1) ((σ[j]:Nat):Int)).set j ((σ[j + 1]:Nat):Int) = nI σ':=by
    rw [hσ']
    unfold nI
    rw [List.map_set,List.map_set]
    rfl
   rw [e]
   exact he
  ·obtain ⟨τ,hτ,he⟩:=out σ ⟨h.perm,fun a b hab hb _=>by
    by_cases b1:b = j + 1
    ·subst b1
     have hle:q[σ[j]] ≤ q[σ[j + 1]]:=by grind
     by_cases a1:a = j
     ·rw [a1,g0,g1,v0,v1];exact hle
     ·have:=h.ord a j (by omega) (by omega) (by omega)
      rw [g0,v0] at this
      rw [g1,v1]
      exact Rat.le_trans this hle
    ·exact h.ord a b hab hb b1⟩
   refine ⟨τ,hτ,Ev.step start (Ev.bind hev ?_)⟩
   exact Ev.congr (fun k=>if_neg (fun e=>hlt ((cmpR_lt _ _).1 e))) he
theorem sort_l0:∀ (d i:Nat) (σ:List Nat),i + d = q.length → On q σ i i → ∃ τ,On q τ q.length q.length ∧ Ev (fun k=>slices_insertionSortCmpFunc_int.l0 k (nI σ) 0 (q.length:Int) (encL q) (i:Int)) (nI τ):=by
 intro d
 induction d with
 | zero =>
  intro i σ hi h
  have:i = q.length:=by omega
  subst this
  refine ⟨σ,h,Ev.step (f:=fun _=>some (nI σ)) (fun k=>?_) (Ev.now _)⟩
  rw [slices_insertionSortCmpFunc_int.l0,if_neg (by omega)]
 | succ d ih =>
  intro i σ hi h
  obtain ⟨τ,hτ,he⟩:=sort_l1 hf hn (i:=i) (by omega) (fun τ=>On q τ q.length q.length) (fun σ' h'=>ih (i + 1) σ' (by omega) h') i σ (Nat.le_refl _) ⟨h.perm,fun a b hab hb hbi=>h.ord a b hab (by omega) hbi⟩
  refine ⟨τ,hτ,Ev.step (fun k=>?_) he⟩
  rw [slices_insertionSortCmpFunc_int.l0,if_pos (by omega)]
theorem by_l0:∀ (d i:Nat),i + d = q.length → ∃ τ,On q τ q.length q.length ∧ Ev (fun k=>by_compare.l0 k (nI (List.range i)) (q.length:Int) (i:Int) (encL q)) (nI τ):=by
 intro d
 induction d with
 | zero =>
  intro i hi
  have:i = q.length:=by omega
  subst this
  have hs:∃ τ,On q τ q.length q.length ∧ Ev (fun k=>slices_insertionSortCmpFunc_int.l0 k (nI (List.range q.length)) 0 (q.length:Int) (encL q) 1) (nI τ):=by
   by_cases h0:q.length = 0
   ·refine ⟨List.range q.length,⟨List.Perm.refl _,fun a b _ hb _=>by omega⟩,Ev.step (f:=fun _=>some (nI (List.range q.length))) (fun k=>?_) (Ev.now _)⟩
    rw [slices_insertionSortCmpFunc_int.l0,if_neg (by omega)]
   ·obtain ⟨τ,hτ,he⟩:=sort_l0 hf hn (q.length - 1) 1 (List.range q.length) (by omega) ⟨List.Perm.refl _,fun a b hab hb _=>by omega⟩
    exact ⟨τ,hτ,he⟩
  obtain ⟨τ,hτ,he⟩:=hs
  refine ⟨τ,hτ,Ev.step (f:=fun k=>(slices_SortStableFunc_int_int.f k (nI (List.range q.length)) (encL q)).bind fun t=>some t) (fun k=>?_) (Ev.bind ?_ (Ev.now _))⟩
  ·rw [by_compare.l0,if_neg (by omega)]
  ·unfold slices_SortStableFunc_int_int.f slices_stableCmpFunc_int.f
   rw [nI_length,List.length_range]
   refine Ev.bind (a:=nI τ) ?_ (Ev.now _)
   refine Ev.congr (fun k=>if_pos (by omega)) ?_
   refine Ev.step (f:=fun k=>(slices_insertionSortCmpFunc_int.f k (nI (List.range q.length)) 0 (q.length:Int) (encL q)).bind fun t=>slices_stableCmpFunc_int.l1 k t) (fun k=>rfl) (Ev.bind (a:=nI τ) ?_ ?_)
   ·unfold slices_insertionSortCmpFunc_int.f
    have:wrap64 ((0:Int) + 1) = 1:=wrap_id (by omega) (by omega)
    rw [this]
    exact he
   ·exact Ev.step (f:=fun _=>some (nI τ)) (fun k=>rfl) (Ev.now _)
 | succ d ih =>
  intro i hi
  obtain ⟨τ,hτ,he⟩:=ih (i + 1) (by omega)
  refine ⟨τ,hτ,Ev.step (fun k=>?_) he⟩
  rw [by_compare.l0,if_pos (by omega),if_pos (by rw [nI_length,List.length_range];omega),wrap_succ (by omega)]
  congr 1
  unfold nI
  rw [List.range_succ,List.map_append]
  rfl
theorem ev_by:∃ τ:List Nat,τ.Perm (List.range q.length) ∧ (τ.map fun i=>q.getD i 0).Pairwise (· ≤ ·) ∧ Ev (fun k=>by_compare.f k (encL q)) (nI τ):=by
 obtain ⟨τ,hτ,he⟩:=by_l0 hf hn q.length 0 (by omega)
 refine ⟨τ,hτ.perm,?_,?_⟩
 ·rw [List.pairwise_iff_getElem]
  intro a b ha hb hab
  rw [List.length_map] at ha hb
  rw [List.getElem_map,List.getElem_map]
  have:=hτ.ord a b hab (by rw [← hτ.len];exact hb) (by rw [← hτ.len];omega)
  simpa [ha,hb] using this
 ·unfold by_compare.f
  rw [encL_length]
  exact he
end
end Go.Proofs.Ytjohcjfmlhihbaa.P
namespace Go.Proofs.Ytjohcjfmlhihbaa.P
open Go Go.RowKit Go.Proofs.Ytjohcjfmlhihbaa.G
open Go.Proofs.YtjohcjfmlhihbaaW.PrintWords Go.Proofs.YtjohcjfmlhihbaaW.PrintMore
def fac:Nat → Nat
 | 0=>1
 | n + 1=>(n + 1) * fac n
structure OkE (E:Rat) (D left:Nat):Prop where
 lo:0 ≤ E
 hi:E ≤ ((10000:Nat):Rat)
 den:E.den ∣ D
 two:2 ∣ D
 pos:0 < D
 small:D * fac left ≤ 7257600
structure OkC (c:Rat):Prop where
 lo:0 ≤ c
 hi:c ≤ ((1000:Nat):Rat)
 den:c.den ∣ 2
theorem over_den (E:Rat) {n:Nat} (hn:0 < n):(E / (n:Rat)).den ∣ E.den * n:=by
 rw [← mk_over E hn]
 exact den_dvd _ (Nat.ne_of_gt (Nat.mul_pos (den_pos E) hn))
theorem nat_pos_rat {n:Nat} (h:0 < n):(0:Rat) < (n:Rat):=Rat.natCast_pos.2 h
theorem over_le {E:Rat} {n:Nat} (hn:0 < n) (h:0 ≤ E):0 ≤ E / (n:Rat) ∧ E / (n:Rat) ≤ E:=by
 have hp:=nat_pos_rat hn
 have h1:(1:Rat) ≤ (n:Rat):=by
  have:((1:Nat):Rat) ≤ (n:Rat):=Rat.natCast_le_natCast.2 hn
  simpa using this
 have hm:E / (n:Rat) * (n:Rat) = E:=Rat.div_mul_cancel (by grind)
 have h0:0 ≤ E / (n:Rat):=by
  refine Rat.le_of_mul_le_mul_right (c:=(n:Rat)) ?_ hp
  rw [hm];grind
 refine ⟨h0,?_⟩
 have:=Rat.mul_le_mul_of_nonneg_left h1 h0
 rw [hm] at this
 grind
section
variable {E c:Rat} {D n:Nat} (h:OkE E D (n + 1)) (hc:OkC c)
include h
theorem eqD:D * (n + 1) * fac n ≤ 7257600:=by
 have:=h.small
 rw [fac] at this
 rw [Nat.mul_assoc];exact this
theorem over_dvd:(E / ((n + 1:Nat):Rat)).den ∣ D * (n + 1):=Nat.dvd_trans (over_den E (by omega)) (Nat.mul_dvd_mul_right h.den _)
end
section
variable {E c:Rat} {D n:Nat} (h:OkE E D (n + 1)) (hc:OkC c)
include h hc
theorem min_dvd:(min c (E / ((n + 1:Nat):Rat))).den ∣ D * (n + 1):=by
 rw [Rat.min_def]
 split
 ·exact Nat.dvd_trans (Nat.dvd_trans hc.den h.two) (Nat.dvd_mul_right _ _)
 ·exact over_dvd h
theorem min_lohi:0 ≤ min c (E / ((n + 1:Nat):Rat)) ∧ min c (E / ((n + 1:Nat):Rat)) ≤ E:=by
 have hl:=over_le (n:=n + 1) (by omega) h.lo
 have:=hc.lo
 rw [Rat.min_def]
 split <;> grind
theorem OkE.next:OkE (E - min c (E / ((n + 1:Nat):Rat))) (D * (n + 1)) n:=by
 have hl:=min_lohi h hc
 exact ⟨by grind,by have:=h.hi;grind,sub_den_dvd' (Nat.dvd_trans h.den (Nat.dvd_mul_right _ _)) (min_dvd h hc) (Nat.mul_pos h.pos (by omega)),Nat.dvd_trans h.two (Nat.dvd_mul_right _ _),Nat.mul_pos h.pos (by omega),eqD h⟩
end
end Go.Proofs.Ytjohcjfmlhihbaa.P
namespace Go.Proofs.Ytjohcjfmlhihbaa.P
open Go Go.RowKit Go.Proofs.Ytjohcjfmlhihbaa.G
open Go.Proofs.YtjohcjfmlhihbaaW.PrintWords Go.Proofs.YtjohcjfmlhihbaaW.PrintMore
theorem tot_den {D:Nat} (h0:0 < D):∀ {l:List Rat},(∀ c ∈ l,c.den ∣ D) → (tot l).den ∣ D
 | [],_=>Nat.one_dvd _
 | a :: l,h=>add_den_dvd' (h a (by simp)) (tot_den h0 (fun c hc=>h c (List.mem_cons_of_mem _ hc))) h0
theorem tot_min (L:Rat):∀ l:List Rat,tot (l.map fun c=>min c L) = tot (l.map fun c=>if c ≤ L then c else 0) + ((l.countP fun c=>decide (L < c):Nat):Rat) * L
 | []=>by simp [tot_nil];grind
 | a :: l=>by
  rw [List.map_cons,List.map_cons,tot_cons,tot_cons,tot_min L l,List.countP_cons,Rat.min_def]
  by_cases h:a ≤ L
  ·have h':¬ L < a:=by grind
   rw [if_pos h,if_pos h,if_neg (by simpa using h')]
   push_cast;grind
  ·have h':L < a:=by grind
   rw [if_neg h,if_neg h,if_pos (by simpa using h')]
   push_cast;grind
theorem IsEq.den {l:List Rat} {E:Rat} {x:List Rat} (h:IsEq l E x) {D:Nat} (h0:0 < D) (hl:∀ c ∈ l,c.den ∣ D) (hE:E.den ∣ D):∀ y ∈ x,∃ m,1 ≤ m ∧ m ≤ l.length ∧ y.den ∣ D * m:=by
 obtain ⟨L,rfl,ht⟩:=h
 intro y hy
 obtain ⟨c,hc,rfl⟩:=List.mem_map.1 hy
 have hlen:1 ≤ l.length:=List.length_pos_iff.2 (List.ne_nil_of_mem hc)
 rw [Rat.min_def]
 by_cases h1:c ≤ L
 ·rw [if_pos h1]
  exact ⟨1,Nat.le_refl _,hlen,by rw [Nat.mul_one];exact hl c hc⟩
 ·rw [if_neg h1]
  obtain ⟨m,hm⟩:∃ m,l.countP (fun c=>decide (L < c)) = m:=⟨_,rfl⟩
  have hm1:1 ≤ m:=by
   rw [← hm]
   exact List.countP_pos_iff.2 ⟨c,hc,by simp;grind⟩
  have hm2:m ≤ l.length:=by rw [← hm];exact List.countP_le_length
  rw [tot_min,hm] at ht
  have hS:(tot (l.map fun c=>if c ≤ L then c else 0)).den ∣ D:=tot_den h0 (fun z hz=>by
   obtain ⟨d,hd,rfl⟩:=List.mem_map.1 hz
   split
   ·exact hl d hd
   ·exact Nat.one_dvd _)
  have hp:=nat_pos_rat (n:=m) (by omega)
  have hL:L = (E - tot (l.map fun c=>if c ≤ L then c else 0)) / (m:Rat):=by
   rw [← ht]
   have:(tot (l.map fun c=>if c ≤ L then c else 0) + (m:Rat) * L - tot (l.map fun c=>if c ≤ L then c else 0)) = L * (m:Rat):=by grind
   rw [this]
   exact (Rat.mul_div_cancel (by grind)).symm
  refine ⟨m,hm1,hm2,?_⟩
  rw [hL]
  exact Nat.dvd_trans (over_den _ (by omega)) (Nat.mul_dvd_mul_right (sub_den_dvd' hE hS h0) _)
end Go.Proofs.Ytjohcjfmlhihbaa.P
namespace Go.Proofs.Ytjohcjfmlhihbaa.P
open Go Go.RowKit Go.Proofs.Ytjohcjfmlhihbaa.G
open Go.Proofs.YtjohcjfmlhihbaaW.PrintWords Go.Proofs.YtjohcjfmlhihbaaW.PrintMore
theorem S_single {m j:Nat} (hj:j < m) (r:Rat):S m (fun u=>if u = j then r else 0) = r:=by
 induction m with
 | zero=>omega
 | succ m ih =>
  unfold S
  rw [List.range_succ,List.map_append,tot_append]
  by_cases h:j = m
  ·subst h
   have:tot ((List.range j).map fun u=>if u = j then r else 0) = 0:=S_zero (m:=j) (fun u hu=>by rw [if_neg (by omega)])
   rw [this]
   simp only [List.map_cons,List.map_nil,tot_cons,tot_nil,if_true]
   grind
  ·have:=ih (by omega)
   unfold S at this
   rw [this]
   simp only [List.map_cons,List.map_nil,tot_cons,tot_nil]
   rw [if_neg (fun e=>h e.symm)]
   grind
theorem S_update {m j:Nat} (hj:j < m) {f g:Nat → Rat} (h:∀ u,u < m → u ≠ j → g u = f u):S m g = S m f + (g j - f j):=by
 have e:S m (fun u=>g u - f u) = S m (fun u=>if u = j then g j - f j else 0):=S_congr fun u hu=>by
  by_cases hu2:u = j
  ·subst hu2;rw [if_pos rfl]
  ·rw [if_neg hu2,h u hu hu2];grind
 rw [S_sub,S_single hj] at e
 grind
structure Rq (l:List Int) (E e:Int) (done:List Bool) (left:Nat) (out:List S23):Prop where
 dl:done.length = l.length
 ol:out.length = l.length
 cnt:(left:Rat) = S l.length (fun i=>if done.getD i false then 0 else 1)
 est:(e:Rat) = (E:Rat) - S l.length (fun i=>if done.getD i false then ((l.getD i 0:Int):Rat) else 0)
 e0:0 ≤ e
 eb:e ≤ 20000
 lb:left ≤ 10
 ok:∀ i,i < l.length → done.getD i false = true → l.getD i 0 * (left:Int) ≤ e ∧ out.getD i z23 = encQ ((l.getD i 0:Int):Rat)
section
variable {l:List Int} (h:IsCl l) {E:Int}
include h
theorem Rq.next {e:Int} {done:List Bool} {left:Nat} {out:List S23} (s:Rq l E e done (left + 1) out) {j:Nat} (hj:j < l.length) (hd:done.getD j false = false) (hc:l.getD j 0 * ((left + 1:Nat):Int) ≤ e) :
  Rq l E (e - l.getD j 0) (done.set j true) left (out.set j (encQ ((l.getD j 0:Int):Rat))):=by
 have hg:l.getD j 0 = l[j]:=by simp [hj]
 have hm:=h.mem _ (List.getElem_mem hj)
 rw [← hg] at hm
 have gd:∀ u,(done.set j true).getD u false = if u = j then true else done.getD u false:=by
  intro u
  simp only [List.getD_eq_getElem?_getD,List.getElem?_set]
  by_cases e1:u = j
  ·subst e1;simp [s.dl,hj]
  ·rw [if_neg (fun e=>e1 e.symm),if_neg e1]
 have go:∀ u,(out.set j (encQ ((l.getD j 0:Int):Rat))).getD u z23 = if u = j then encQ ((l.getD j 0:Int):Rat) else out.getD u z23:=by
  intro u
  simp only [List.getD_eq_getElem?_getD,List.getElem?_set]
  by_cases e1:u = j
  ·subst e1;simp [s.ol,hj]
  ·rw [if_neg (fun e=>e1 e.symm),if_neg e1]
 have hc2:l.getD j 0 * (left:Int) + l.getD j 0 ≤ e:=by
  have:l.getD j 0 * ((left + 1:Nat):Int) = l.getD j 0 * (left:Int) + l.getD j 0:=by push_cast;rw [Int.mul_add,Int.mul_one]
  omega
 have hpos:0 ≤ l.getD j 0 * (left:Int):=Int.mul_nonneg hm.1 (by omega)
 refine ⟨by rw [List.length_set];exact s.dl,by rw [List.length_set];exact s.ol,?_,?_,by omega,by have:=s.eb;omega,by have:=s.lb;omega,fun i hi hid=>?_⟩
 ·have hu:=S_update hj (f:=fun i=>if done.getD i false then (0:Rat) else 1) (g:=fun i=>if (done.set j true).getD i false then 0 else 1) (fun u _ hu=>by simp only [gd,if_neg hu])
  rw [hu,← s.cnt]
  simp only [gd,if_true,hd,Bool.false_eq_true,if_false]
  push_cast;grind
 ·have hu:=S_update hj (f:=fun i=>if done.getD i false then ((l.getD i 0:Int):Rat) else 0) (g:=fun i=>if (done.set j true).getD i false then ((l.getD i 0:Int):Rat) else 0) (fun u _ hu=>by simp only [gd,if_neg hu])
  rw [hu]
  simp only [gd,if_true,hd,Bool.false_eq_true,if_false]
  have:=s.est
  push_cast
  grind
 ·rw [gd] at hid
  rw [go]
  by_cases e1:i = j
  ·subst e1
   rw [if_pos rfl]
   exact ⟨by omega,rfl⟩
  ·rw [if_neg e1] at hid ⊢
   obtain ⟨k1,k2⟩:=s.ok i hi hid
   refine ⟨?_,k2⟩
   have hi2:l.getD i 0 * ((left + 1:Nat):Int) = l.getD i 0 * (left:Int) + l.getD i 0:=by push_cast;rw [Int.mul_add,Int.mul_one]
   rw [hi2] at k1
   have a1:(l.getD i 0 * (left:Int) + l.getD i 0) * (left:Int) ≤ e * (left:Int):=Int.mul_le_mul_of_nonneg_right k1 (by omega)
   by_cases hl0:left = 0
   ·subst hl0
    have:l.getD i 0 * ((0:Nat):Int) = 0:=by simp
    omega
   ·-- (left + 1) * (c_i * left) ≤ e * left ≤ (left + 1) * (e - c_j)
    have a2:e * (left:Int) ≤ ((left:Int) + 1) * (e - l.getD j 0):=by
     have:((left:Int) + 1) * (e - l.getD j 0) = e * (left:Int) + e - (l.getD j 0 * (left:Int) + l.getD j 0):=by grind
     omega
    have a3:(l.getD i 0 * (left:Int) + l.getD i 0) * (left:Int) = ((left:Int) + 1) * (l.getD i 0 * (left:Int)):=by grind
    rw [a3] at a1
    exact Int.le_of_mul_le_mul_left (Int.le_trans a1 a2) (by omega)
end
end Go.Proofs.Ytjohcjfmlhihbaa.P
set_option linter.unusedSectionVars false
namespace Go.Proofs.Ytjohcjfmlhihbaa.P
open Go Go.RowKit Go.Proofs.Ytjohcjfmlhihbaa.G
open Go.Proofs.YtjohcjfmlhihbaaW.PrintWords Go.Proofs.YtjohcjfmlhihbaaW.PrintMore
theorem awake_now:numnahlaw07_awake.f 60 = some true:=by kernel_rfl
theorem ev_awake:Ev (fun k=>numnahlaw07_awake.f k) true:=Ev.of (fun k=>numnahlaw07_awake.mono k) awake_now
end Go.Proofs.Ytjohcjfmlhihbaa.P
namespace Go.Proofs.Ytjohcjfmlhihbaa.G
open Go.RowKit Go.Proofs.YtjohcjfmlhihbaaW.PrintWords Go.Proofs.YtjohcjfmlhihbaaW.PrintLast Go.Proofs.YtjohcjfmlhihbaaW.PrintMore
set_option maxHeartbeats 8000000
set_option maxRecDepth 100000
attribute [local go_sem] cond_true cond_false fld23_0 fld23_1 fld45_0 fld45_1 fld109_0 fld109_1 fld94_0 fld94_1 max2_int min2_int max_two min_two max_three min_three max_four min_four   -- for this text's walks alone
attribute [local go_sem high] eqA23
def numnahlaw07_fracs.f (l0:List (S23)):Option ((List (S23))):=if 0 ≤ (mn (l0.length:Int) 11) then (if (mn (l0.length:Int) 11) ≤ (l0.length:Int) then ((some (l0.take ((mn (l0.length:Int) 11):Int).toNat:List (S23))).bind fun b0=>(if ([]:List (S23)).length + b0.length < 8796093022208 then (some (([]:List (S23)) ++ b0)) else (none))) else (none)) else (none)
theorem numnahlaw07_fracs.calls (A0:Option Addr) (c0:Nat) (l0:List (S23)) (r:List (S23)) (w:World) (d6:Kd.C k23 w A0 l0.length l0) (d7:l0.length ≤ c0) (h:numnahlaw07_fracs.f l0 = some r) :
  Calls Try.prog 36 #[.slice A0 l0.length c0] w fun e w'=>∃ d8:Value,e = .returned (d8) ∧ Kd.R k23 23 w' w.heap.size (fun _=>True) d8 r ∧ Below w.heap.size w w':=by
 have e4:=Aside0.mk d6
 have e5:=Aside0.mk d7
 clear d6 d7
 have HB:=Aside0.mk (Below.refl w.heap.size w)
 have H:(if 0 ≤ (mn (l0.length:Int) 11) then (if (mn (l0.length:Int) 11) ≤ (l0.length:Int) then ((some (l0.take ((mn (l0.length:Int) 11):Int).toNat:List (S23))).bind fun b0=>(if ([]:List (S23)).length + b0.length < 8796093022208 then (some (([]:List (S23)) ++ b0)) else (none))) else (none)) else (none)) = some r:=h
 clear h
 obtain ⟨b1,b4⟩:∃ j_:Int,(mn (l0.length:Int) 11) = j_:=⟨_,rfl⟩
 replace H:(if 0 ≤ (b1) then (if (b1) ≤ (l0.length:Int) then ((some (l0.take ((b1):Int).toNat:List (S23))).bind fun b0=>(if ([]:List (S23)).length + b0.length < 8796093022208 then (some (([]:List (S23)) ++ b0)) else (none))) else (none)) else (none)) = some r:=by first | (rw [b4] at H;exact H) | (simp only [b4] at H ⊢;exact H)
 (try (have hji2h:b1 ≤ 11:=by (rw [← b4];unfold mn;(repeat' split) <;> omega)))
 (try (have hji2g:b1 ≤ 64:=by omega))
 (try (have hji2l:0 ≤ b1:=by (rw [← b4];unfold mn;(repeat' split) <;> omega)))
 (try (have hji2m:0 ≤ b1:=by omega))
 have d9:(if 11 < (l0.length:Int) then 11 else (l0.length:Int)) = b1:=b4
 by_cases c3:0 ≤ (b1)
 case neg =>
  rw [if_neg c3] at H
  exact absurd H (by simp)
 rw [if_pos c3] at H
 have e6:=eq_true c3
 have e7:decide (0 ≤ (b1)) = true:=decide_eq_true c3
 clear c3
 by_cases c4:(b1) ≤ (l0.length:Int)
 case neg =>
  rw [if_neg c4] at H
  exact absurd H (by simp)
 rw [if_pos c4] at H
 have e8:=eq_true c4
 have e9:decide ((b1) ≤ (l0.length:Int)) = true:=decide_eq_true c4
 clear c4
 obtain ⟨b0,b2⟩:∃ y_:List (S23),y_ = (l0.take ((b1):Int).toNat):=⟨_,rfl⟩
 replace H:(if ([]:List (S23)).length + b0.length < 8796093022208 then (some (([]:List (S23)) ++ b0)) else (none)) = some r:=by first | (rw [b2];with_reducible exact H) | (have b6:=(Option.bind_some _ _).symm.trans H;rw [b2];with_reducible exact b6) | (have b6:=(Option.bind_some _ _).symm.trans H;with_reducible exact b6) | with_reducible exact H | (rw [b2];exact H) | exact H
 have b5:=Aside0.mk b2
 clear b2
 by_cases c5:([]:List (S23)).length + b0.length < 8796093022208
 case neg =>
  rw [if_neg c5] at H
  exact absurd H (by simp)
 rw [if_pos c5] at H
 have d1:=Aside0.mk c5
 clear c5
 obtain ⟨d2,b3⟩:∃ y_:List (S23),y_ = (([]:List (S23)) ++ b0):=⟨_,rfl⟩
 replace H:(some d2) = some r:=by first | (rw [b3];with_reducible exact H) | (have b6:=(Option.bind_some _ _).symm.trans H;rw [b3];with_reducible exact b6) | (have b6:=(Option.bind_some _ _).symm.trans H;with_reducible exact b6) | with_reducible exact H | (rw [b3];exact H) | exact H
 have b7:=Aside0.mk b3
 clear b3
 obtain rfl:=Option.some.inj H
 have q6:((b1):Int) ≤ ((l0.length:Int):Int):=of_decide_eq_true (by first | (with_reducible assumption) | assumption)
 obtain ⟨h1,b8,_,d3,_⟩:=info_parts info23
 have hroom6:l0.length ≤ c0:=e5.out
 have e0:Kd.C k23 _ A0 l0.length l0:=e4.out
 have b9:=cut_to (P:=Try.prog) 35 23 .i64 Try.underlying35 b8 A0 l0.length c0 (b1) (of_decide_eq_true (by first | (with_reducible assumption) | assumption)) q6 hroom6
 have d4:=Kd.C_take (m:=((b1):Int).toNat) e0 (by omega)
 have d5:b0.length = ((b1):Int).toNat:=(by rw [b5.out,List.length_take];omega)
 rw [← b5.out] at d4
 rw [← d5] at b9
 have c1:=Aside0.mk d4
 have e1:=Aside0.mk (show b0.length ≤ c0 from by omega)
 clear d4 e0 hroom6 b8 d3
 have h2:=Aside0.mk d5
 clear d5
 replace q6:=eq_true q6
 go_enter Try.func36,Try.ntmps36
 go_wp2_with (first | ((with_reducible refine gate_builtin (b:=.append) (xs:=#[.tmp 4,.tmp 9]) rfl ?_);at_builtin;refine Kd.R_append_rows k23 (w0:=w) w.heap.size rfl (.tmp 4) (.tmp 9) 35 23 (.agg #[(.int .i64 0),(.int .i64 0)]) 16 rfl Try.underlying35 info23 rfl (by decide) (by omega) (.slice none 0 0) ([]:List (S23)) b0 _ _ _ (fun _=>True) (fun _=>False) rfl rfl ?aO ?aR (fun _ _ h=>h) (fun _ h=>h.elim) ?aF ?aB ?aS ?aL ?_;(case aR=>repeat (first | exact c1.out | (with_reducible refine Kd.C_alloc ?_ _) | (with_reducible refine Kd.C_drewN ?_ _) | (with_reducible refine Kd.C_drew ?_)));(case aB=>exact (by repeat (first | (with_reducible first | exact HB.out | apply below_alloc | apply pw_below_drewN | apply below_drew1) | exact HB.out)));(case aF=>exact (fun _ _=>trivial));(case aO=>exact ((Kd.R_nil _ _ _ _ (fun _=>True))));(case aS=>exact (below_size (by repeat (first | (with_reducible first | exact HB.out | apply below_alloc | apply pw_below_drewN | apply below_drew1) | exact HB.out))));(case aL=>have:=d1.out;omega);intro h0 w7 ho hb hg hat;rw [← b7.out] at ho;have e2:=Aside0.mk (hb);have e3:=Aside0.mk (ho);clear HB;have HB:=e2;have d0:=e3;clear e2 e3;clear ho hb hg hat))
 go_ret
 exact ⟨_,by first | rfl | (simp [errW_none,errW_some] <;> rfl) | (simp only [← b4];first | rfl | (simp [errW_none,errW_some] <;> rfl)) | (simp [*,errW_none,errW_some] <;> rfl),by (with_reducible repeat (first | apply Kd.R_alloc | apply Kd.R_drewN | apply Kd.R_drew));exact d0.out,by repeat (first | (with_reducible first | exact HB.out | apply below_alloc | apply pw_below_drewN | apply below_drew1) | exact HB.out)⟩
end Go.Proofs.Ytjohcjfmlhihbaa.G
set_option linter.unusedSectionVars false
namespace Go.Proofs.Ytjohcjfmlhihbaa.P
open Go Go.RowKit Go.Proofs.Ytjohcjfmlhihbaa.G
open Go.Proofs.YtjohcjfmlhihbaaW.PrintWords Go.Proofs.YtjohcjfmlhihbaaW.PrintMore
theorem S23_ext {a b:S23} (h0:a.f0 = b.f0) (h1:a.f1 = b.f1):a = b:=by cases a;cases b;simp_all
instance:DecidableEq S23:=fun a b=>decidable_of_iff (a.f0 = b.f0 ∧ a.f1 = b.f1) ⟨fun h=>S23_ext h.1 h.2,fun h=>by rw [h];exact ⟨rfl,rfl⟩⟩
theorem rdT {a:List S23} {i:Nat} (h:i < a.length):rd_T23 a (i:Int) = a[i]:=by unfold rd_T23;simp [h]
theorem mn11 {n:Nat}:mn (n:Int) 11 = ((min n 11:Nat):Int):=by unfold mn;split <;> omega
theorem fracs_f (l:List S23):numnahlaw07_fracs.f l = some (l.take 11):=by
 unfold numnahlaw07_fracs.f
 rw [mn11,if_pos (by omega),if_pos (by omega),Int.toNat_natCast]
 simp only [Option.bind_some,List.nil_append,List.length_nil]
 rw [if_pos (by rw [List.length_take];omega)]
 congr 1
 by_cases h:l.length ≤ 11
 ·rw [List.take_of_length_le (by omega),List.take_of_length_le h]
 ·rw [show min l.length 11 = 11 by omega]
theorem IsRule.len {r:Nat} {q:List Rat} {E:Rat} {x:List Rat} (h:IsRule r q E x):x.length = q.length:=by
 obtain ⟨_,_,rfl,_⟩:=h
 exact List.length_map _
end Go.Proofs.Ytjohcjfmlhihbaa.P
namespace Go.Proofs.Ytjohcjfmlhihbaa.G
open Go.RowKit Go.Proofs.YtjohcjfmlhihbaaW.PrintWords Go.Proofs.YtjohcjfmlhihbaaW.PrintLast Go.Proofs.YtjohcjfmlhihbaaW.PrintMore
set_option maxHeartbeats 8000000
set_option maxRecDepth 100000
attribute [local go_sem] cond_true cond_false fld23_0 fld23_1 fld45_0 fld45_1 fld109_0 fld109_1 fld94_0 fld94_1 max2_int min2_int max_two min_two max_three min_three max_four min_four   -- for this text's walks alone
def shares_sum.l0:Nat → List (S23) → Int → Int → Int → Int → Option (Int × Int)
 | 0,_,_,_,_,_=>none
 | k + 1,x7,x8,x9,d7,d8=>if x9 < x8 then (if 0 ≤ x9 then (if x9 < (x7.length:Int) then ((shares_add.f k d7 d8 ((rd_T23 x7 x9).f0) ((rd_T23 x7 x9).f1)).bind fun e5=>(shares_sum.l0 k x7 x8 (wrap64 (x9 + 1)) e5.1 e5.2)) else (none)) else (none)) else (some (d7,d8))
def shares_sum.f (k:Nat) (l0:List (S23)):Option (Int × Int):=(shares_whole.f 0).bind fun d4=>(shares_sum.l0 k l0 (l0.length:Int) 0 d4.1 d4.2)
theorem shares_sum.mono_l:∀ k,(∀ y0 y1 y2 y3 y4,LeO (shares_sum.l0 k y0 y1 y2 y3 y4) (shares_sum.l0 (k + 1) y0 y1 y2 y3 y4))
 | 0=>fun _ _ _ _ _ r h=>by simp [shares_sum.l0] at h
 | k + 1=>by
  have h7:=shares_sum.mono_l k
  intro y0 y1 y2 y3 y4
  unfold shares_sum.l0
  repeat' first
  | (with_reducible exact h7 _ _ _ _ _)
  | (with_reducible exact shares_add.mono _ _ _ _ _)
  | (with_reducible exact LeO.refl _)
  | (with_reducible exact LeO.none _)
  | (with_reducible refine LeO.ite ?_ ?_)
  | (with_reducible refine LeO.bind ?_ (fun _=>?_))
  | exact h7 _ _ _ _ _
  | exact shares_add.mono _ _ _ _ _
  | exact LeO.none _
  | refine LeO.ite ?_ ?_
  | refine LeO.bind ?_ (fun _=>?_)
theorem shares_sum.mono:∀ a0 k,LeO (shares_sum.f k a0) (shares_sum.f (k + 1) a0):=by
 intro a0 k
 have h7:=shares_sum.mono_l k
 unfold shares_sum.f
 repeat' first
   | (with_reducible exact h7 _ _ _ _ _)
   | (with_reducible exact shares_add.mono _ _ _ _ _)
   | (with_reducible exact LeO.refl _)
   | (with_reducible exact LeO.none _)
   | (with_reducible refine LeO.ite ?_ ?_)
   | (with_reducible refine LeO.bind ?_ (fun _=>?_))
   | exact h7 _ _ _ _ _
   | exact shares_add.mono _ _ _ _ _
   | exact LeO.none _
   | refine LeO.ite ?_ ?_
   | refine LeO.bind ?_ (fun _=>?_)
theorem shares_sum.calls (k:Nat) (A0:Option Addr) (c0:Nat) (l0:List (S23)) (r1:Int) (r2:Int) (w:World) (m9:Kd.C k23 w A0 l0.length l0) (n0:l0.length ≤ c0) (h:shares_sum.f k l0 = some (r1,r2)) :
  Calls Try.prog 83 #[.slice A0 l0.length c0] w fun e w'=>e = .returned (.agg #[.int .i64 r1,.int .i64 r2]) ∧ Below w.heap.size w w':=by
 have o5:=Try.underlying23
 have o6:=Aside0.mk m9
 have p1:=Aside0.mk n0
 clear m9 n0
 have HB:=Aside0.mk (Below.refl w.heap.size w)
 have H:((shares_whole.f 0).bind fun d4=>(shares_sum.l0 k l0 (l0.length:Int) 0 d4.1 d4.2)) = some (r1,r2):=h
 clear h
 replace H:=Option.bind_eq_some_iff.mp H
 obtain ⟨⟨e1,e6⟩,A20,H⟩:=H
 replace H:(shares_sum.l0 k l0 (l0.length:Int) 0 e1 e6) = some (r1,r2):=H
 have A2:=Aside0.mk A20
 clear A20
 have H':=Aside0.mk H
 clear H
 go_enter Try.func83,Try.ntmps83
 go_wp2_with (first | ((with_reducible refine gate_dst (N:=2) rfl ?_);refine box_event ?hg (N:=2) ?hd (cs:=#[.int .i64 0,.int .i64 0]) (t:=23) ?hr ?_;(case hd=>rfl);(case hg=>rfl);(case hr=>first | (go_simp;done) | (go_simp;rfl));intro b5 hg w3 hbox hb;have e2:=Aside0.mk (below_step (by repeat (first | (with_reducible first | exact HB.out | apply below_alloc | apply pw_below_drewN | apply below_drew1) | exact HB.out)) hb);have e3:=Aside0.mk (hbox);have e7:=Aside0.mk ((by rw [hg];exact (below_size (by repeat (first | (with_reducible first | exact HB.out | apply below_alloc | apply pw_below_drewN | apply below_drew1) | exact HB.out))):w.heap.size ≤ b5));have e8:=Aside0.mk ((by rw [hg];exact (below_size (by repeat (first | (with_reducible first | exact HB.out | apply below_alloc | apply pw_below_drewN | apply below_drew1) | exact HB.out))):w.heap.size ≤ b5));clear HB;have HB:=e2;have b3:=e3;have m4:=e7;have b7:=e8;clear e2 e3 e7 e8;clear hb hbox hg) | ((with_reducible refine gate_callee (f:=64) rfl ?_);refine goesL_ (some 6) rfl rfl Try.func64 (by kernel_rfl) rfl #[.int .i64 0] rfl (by (try simp only [List.map_toArray,List.map_cons,List.map_nil]);first | done | rfl | (simp only [List.length_drop,List.length_take];rfl)) ?_;(with_reducible refine (shares_whole.calls 0 e1 e6 _ A2.out).mono ?_);rintro e w4 ⟨rfl,hb⟩;refine ⟨_,rfl,?_⟩;have e2:=Aside0.mk (blk_below (g:=b5) (o:=.cells #[.int .i64 0,.int .i64 0] 23 (0,0)) (by (with_reducible repeat (first | refine blk_drewN ?_ _ | refine blk_drew ?_ | refine blk_alloc ?_ _));exact b3.out) hb);have e3:=Aside0.mk (below_step (by repeat (first | (with_reducible first | exact HB.out | apply below_alloc | apply pw_below_drewN | apply below_drew1 | refine below_set ?_ b7.out) | exact HB.out)) hb);clear b3;clear HB;have b3:=e2;have HB:=e3;clear e2 e3;(try clear hb)) | ((with_reducible refine gate_dst (N:=3) rfl ?_);refine box_event ?hg (N:=3) ?hd (cs:=#[.int .i64 0,.int .i64 0]) (t:=23) ?hr ?_;(case hd=>rfl);(case hg=>rfl);(case hr=>first | (go_simp;done) | (go_simp;rfl));intro b4 hg w5 hbox hb;have e2:=Aside0.mk (blk_below (g:=b5) (o:=.cells #[.int .i64 0,.int .i64 0] 23 (0,0)) (by (with_reducible repeat (first | refine blk_drewN ?_ _ | refine blk_drew ?_ | refine blk_alloc ?_ _));exact b3.out) hb);have e3:=Aside0.mk (below_step (by repeat (first | (with_reducible first | exact HB.out | apply below_alloc | apply pw_below_drewN | apply below_drew1 | refine below_set ?_ b7.out) | exact HB.out)) hb);have e7:=Aside0.mk (hbox);have e8:=Aside0.mk ((by rw [hg];exact (below_size (by repeat (first | (with_reducible first | exact HB.out | apply below_alloc | apply pw_below_drewN | apply below_drew1 | refine below_set ?_ b7.out) | exact HB.out))):w.heap.size ≤ b4));have h8:=Aside0.mk ((by rw [hg];exact (below_size (by repeat (first | (with_reducible first | exact HB.out | apply below_alloc | apply pw_below_drewN | apply below_drew1 | refine below_set ?_ b7.out) | exact HB.out))):w.heap.size ≤ b4));have h9:=Aside0.mk ((by rw [hg];exact Nat.ne_of_lt (blk_lt (g:=b5) (o:=.cells #[.int .i64 0,.int .i64 0] 23 (0,0)) (by (with_reducible repeat (first | refine blk_drewN ?_ _ | refine blk_drew ?_ | refine blk_alloc ?_ _));exact b3.out)):b5 ≠ b4));have i0:=Aside0.mk ((by rw [hg];exact Nat.ne_of_gt (blk_lt (g:=b5) (o:=.cells #[.int .i64 0,.int .i64 0] 23 (0,0)) (by (with_reducible repeat (first | refine blk_drewN ?_ _ | refine blk_drew ?_ | refine blk_alloc ?_ _));exact b3.out)):b4 ≠ b5));clear b3;clear HB;have b3:=e2;have HB:=e3;have b2:=e7;have m5:=e8;have d2:=h8;have b6:=h9;have c1:=i0;clear e2 e3 e7 e8 h8 h9 i0;clear hb hbox hg;have o7:=c1.out;have o8:=b6.out;have h3:w5.cell? ⟨b4,0,none⟩ = some (.int .i64 0):=(blk_cell b2.out 0).trans rfl;have h4:w5.cell? ⟨b4,1,none⟩ = some (.int .i64 0):=(blk_cell b2.out 1).trans rfl;have h5:=blk_frozen b2.out 0;have h6:=blk_frozen b2.out 1))
 go_loopg [9] k (fun kq v9 w'=>∃ (b8:Int) (b0:Int) (b1:Int),v9 = .int .i64 b8 ∧ Aside0 (shares_sum.l0 kq l0 (l0.length:Int) b8 b0 b1 = some (r1,r2)) ∧ Aside0 (kq ≤ k) ∧ Aside0 (w'.heap[b5]? = some (.cells #[.int .i64 0,.int .i64 0] 23 (0,0))) ∧ Aside0 (w'.heap[b4]? = some (.cells #[.int .i64 b0,.int .i64 b1] 23 (0,0))) ∧ Aside0 (Below w.heap.size w w'))
 case atStart=>exact ⟨(0),(e1),(e6),(by first | rfl | (simp;done) | (simp [*];done)),H',⟨Nat.le_refl _⟩,⟨by (with_reducible repeat (first | refine blk_drewN ?_ _ | refine blk_drew ?_ | refine blk_alloc ?_ _));refine blk_far ?_ b6.out _;(with_reducible repeat (first | refine blk_drewN ?_ _ | refine blk_drew ?_ | refine blk_alloc ?_ _));refine blk_far ?_ b6.out _;(with_reducible repeat (first | refine blk_drewN ?_ _ | refine blk_drew ?_ | refine blk_alloc ?_ _));exact b3.out⟩,⟨by (with_reducible repeat (first | refine blk_drewN ?_ _ | refine blk_drew ?_ | refine blk_alloc ?_ _));refine blk_put (cs:=#[.int .i64 e1,.int .i64 0]) ?_ 1 _ rfl;(with_reducible repeat (first | refine blk_drewN ?_ _ | refine blk_drew ?_ | refine blk_alloc ?_ _));refine blk_put (cs:=#[.int .i64 0,.int .i64 0]) ?_ 0 _ rfl;(with_reducible repeat (first | refine blk_drewN ?_ _ | refine blk_drew ?_ | refine blk_alloc ?_ _));exact b2.out⟩,⟨by repeat (first | (with_reducible first | exact HB.out | apply below_alloc | apply pw_below_drewN | apply below_drew1 | refine below_set ?_ b7.out | refine below_set ?_ d2.out) | exact HB.out)⟩⟩
 case round =>
  clear H'
  try clear p2
  try clear c6
  try clear h3
  try clear h4
  try clear h5
  try clear h6
  obtain ⟨b8,b0,b1,rfl,HA,n1,b3,b2,HB⟩:=hrel
  cases gk with
  | zero=>exact absurd HA.out (by simp [shares_sum.l0])
  | succ k1 =>
   have H:=HA.out
   clear HA
   simp only [shares_sum.l0] at H
   by_cases c8:b8 < (l0.length:Int)
   case neg =>
    rw [if_neg c8] at H
    have m6:decide (b8 < (l0.length:Int)) = false:=decide_eq_false c8
    clear c8
    simp only [Option.some.injEq,Prod.mk.injEq] at H
    obtain ⟨rfl,rfl⟩:=H
    have n2:=c1.out
    have n3:=b6.out
    have i2:wr.cell? ⟨b4,0,none⟩ = some (.int .i64 b0):=(blk_cell b2.out 0).trans rfl
    have i3:wr.cell? ⟨b4,1,none⟩ = some (.int .i64 b1):=(blk_cell b2.out 1).trans rfl
    have i4:=blk_frozen b2.out 0
    have i5:=blk_frozen b2.out 1
    have i6:wr.cell? ⟨b5,0,none⟩ = some (.int .i64 0):=(blk_cell b3.out 0).trans rfl
    have i7:wr.cell? ⟨b5,1,none⟩ = some (.int .i64 0):=(blk_cell b3.out 1).trans rfl
    have i8:=blk_frozen b3.out 0
    have i9:=blk_frozen b3.out 1
    go_wp2
    refine bodyPost_ret (results_cell_row rfl _ _ b5 23 #[.int .i64 b0,.int .i64 b1] (0,0) _ rfl (by (with_reducible repeat (first | refine blk_drewN ?_ _ | refine blk_drew ?_ | refine blk_alloc ?_ _));refine blk_put (cs:=#[.int .i64 b0,.int .i64 0]) ?_ 1 _ rfl;(with_reducible repeat (first | refine blk_drewN ?_ _ | refine blk_drew ?_ | refine blk_alloc ?_ _));refine blk_put (cs:=#[.int .i64 0,.int .i64 0]) ?_ 0 _ rfl;(with_reducible repeat (first | refine blk_drewN ?_ _ | refine blk_drew ?_ | refine blk_alloc ?_ _));exact b3.out) Try.underlying23 rfl (by kernel_rfl)) rfl ?_
    exact ⟨by first | rfl | (simp [errW_none,errW_some] <;> rfl) | (simp [*,errW_none,errW_some] <;> rfl),by repeat (first | (with_reducible first | exact HB.out | apply below_alloc | apply pw_below_drewN | apply below_drew1 | refine below_set ?_ b7.out | refine below_set ?_ d2.out) | exact HB.out)⟩
   rw [if_pos c8] at H
   have m6:decide (b8 < (l0.length:Int)) = true:=decide_eq_true c8
   clear c8
   by_cases c9:0 ≤ b8
   case neg =>
    rw [if_neg c9] at H
    exact absurd H (by simp)
   rw [if_pos c9] at H
   have o9:decide (0 ≤ b8) = true:=decide_eq_true c9
   clear c9
   by_cases c10:b8 < (l0.length:Int)
   case neg =>
    rw [if_neg c10] at H
    exact absurd H (by simp)
   rw [if_pos c10] at H
   have n4:decide (b8 < (l0.length:Int)) = true:=decide_eq_true c10
   clear c10
   replace H:=Option.bind_eq_some_iff.mp H
   obtain ⟨⟨e4,e9⟩,A110,H⟩:=H
   replace H:(shares_sum.l0 k1 l0 (l0.length:Int) (wrap64 (b8 + 1)) e4 e9) = some (r1,r2):=H
   have p0:=Aside0.mk A110
   clear A110
   have H':=Aside0.mk H
   clear H
   have h0:0 ≤ (b8:Int):=of_decide_eq_true (by first | (with_reducible assumption) | assumption)
   have h1:b8 < (l0.length:Int):=of_decide_eq_true (by first | (with_reducible assumption) | assumption)
   obtain ⟨m7,i1,d5,d6⟩:=at_T23 o6.out b8 h0 h1
   cases i1
   replace d5:=(HB.out.cell (World.block_lt_of_cell? w _ d5)).trans d5
   replace d6:=(HB.out.cell (World.block_lt_of_cell? w _ d6)).trans d6
   replace h0:=eq_true h0
   replace h1:=eq_true h1
   go_wp2_with (first | ((with_reducible refine gate_dst (N:=5) rfl ?_);refine box_event ?hg (N:=5) ?hd (cs:=#[.int .i64 0,.int .i64 0]) (t:=23) ?hr ?_;(case hd=>rfl);(case hg=>rfl);(case hr=>first | (go_simp;done) | (go_simp;rfl));intro b9 hg j5 hbox hb;have e2:=Aside0.mk (blk_below (g:=b5) (o:=.cells #[.int .i64 0,.int .i64 0] 23 (0,0)) (by (with_reducible repeat (first | refine blk_drewN ?_ _ | refine blk_drew ?_ | refine blk_alloc ?_ _));exact b3.out) hb);have e3:=Aside0.mk (blk_below (g:=b4) (o:=.cells #[.int .i64 b0,.int .i64 b1] 23 (0,0)) (by (with_reducible repeat (first | refine blk_drewN ?_ _ | refine blk_drew ?_ | refine blk_alloc ?_ _));exact b2.out) hb);have e7:=Aside0.mk (below_step (by repeat (first | (with_reducible first | exact HB.out | apply below_alloc | apply pw_below_drewN | apply below_drew1 | refine below_set ?_ b7.out | refine below_set ?_ d2.out) | exact HB.out)) hb);have e8:=Aside0.mk (hbox);have h8:=Aside0.mk ((by rw [hg];exact (below_size (by repeat (first | (with_reducible first | exact HB.out | apply below_alloc | apply pw_below_drewN | apply below_drew1 | refine below_set ?_ b7.out | refine below_set ?_ d2.out) | exact HB.out))):w.heap.size ≤ b9));have h9:=Aside0.mk ((by rw [hg];exact (below_size (by repeat (first | (with_reducible first | exact HB.out | apply below_alloc | apply pw_below_drewN | apply below_drew1 | refine below_set ?_ b7.out | refine below_set ?_ d2.out) | exact HB.out))):w.heap.size ≤ b9));have i0:=Aside0.mk ((by rw [hg];exact Nat.ne_of_lt (blk_lt (g:=b5) (o:=.cells #[.int .i64 0,.int .i64 0] 23 (0,0)) (by (with_reducible repeat (first | refine blk_drewN ?_ _ | refine blk_drew ?_ | refine blk_alloc ?_ _));exact b3.out)):b5 ≠ b9));have n5:=Aside0.mk ((by rw [hg];exact Nat.ne_of_gt (blk_lt (g:=b5) (o:=.cells #[.int .i64 0,.int .i64 0] 23 (0,0)) (by (with_reducible repeat (first | refine blk_drewN ?_ _ | refine blk_drew ?_ | refine blk_alloc ?_ _));exact b3.out)):b9 ≠ b5));have n6:=Aside0.mk ((by rw [hg];exact Nat.ne_of_lt (blk_lt (g:=b4) (o:=.cells #[.int .i64 b0,.int .i64 b1] 23 (0,0)) (by (with_reducible repeat (first | refine blk_drewN ?_ _ | refine blk_drew ?_ | refine blk_alloc ?_ _));exact b2.out)):b4 ≠ b9));have n7:=Aside0.mk ((by rw [hg];exact Nat.ne_of_gt (blk_lt (g:=b4) (o:=.cells #[.int .i64 b0,.int .i64 b1] 23 (0,0)) (by (with_reducible repeat (first | refine blk_drewN ?_ _ | refine blk_drew ?_ | refine blk_alloc ?_ _));exact b2.out)):b9 ≠ b4));clear b3;clear b2;clear HB;have b3:=e2;have b2:=e3;have HB:=e7;have d3:=e8;have m8:=h8;have h2:=h9;have d0:=i0;have d9:=n5;have d1:=n6;have e0:=n7;clear e2 e3 e7 e8 h8 h9 i0 n5 n6 n7;clear hb hbox hg;have n8:=d9.out;have n9:=d0.out;have o0:=e0.out;have o1:=d1.out;have j7:j5.cell? ⟨b9,0,none⟩ = some (.int .i64 0):=(blk_cell d3.out 0).trans rfl;have j8:j5.cell? ⟨b9,1,none⟩ = some (.int .i64 0):=(blk_cell d3.out 1).trans rfl;have j9:=blk_frozen d3.out 0;have l5:=blk_frozen d3.out 1;have o2:=c1.out;have o3:=b6.out;have l6:j5.cell? ⟨b4,0,none⟩ = some (.int .i64 b0):=(blk_cell b2.out 0).trans rfl;have l7:j5.cell? ⟨b4,1,none⟩ = some (.int .i64 b1):=(blk_cell b2.out 1).trans rfl;have l8:=blk_frozen b2.out 0;have l9:=blk_frozen b2.out 1) | ((with_reducible refine gate_callee (f:=88) rfl ?_);refine goesL_ (some 15) rfl rfl Try.func88 (by kernel_rfl) rfl #[.agg #[.int .i64 b0,.int .i64 b1],.agg #[.int .i64 ((rd_T23 l0 b8).f0),.int .i64 ((rd_T23 l0 b8).f1)]] rfl (by (try simp only [List.map_toArray,List.map_cons,List.map_nil]);first | done | rfl | (simp only [List.length_drop,List.length_take];rfl)) ?_;(with_reducible refine (shares_add.calls k1 b0 b1 ((rd_T23 l0 b8).f0) ((rd_T23 l0 b8).f1) e4 e9 _ p0.out).mono ?_);rintro e o4 ⟨rfl,hb⟩;refine ⟨_,rfl,?_⟩;have e2:=Aside0.mk (blk_below (g:=b5) (o:=.cells #[.int .i64 0,.int .i64 0] 23 (0,0)) (by (with_reducible repeat (first | refine blk_drewN ?_ _ | refine blk_drew ?_ | refine blk_alloc ?_ _));refine blk_far ?_ d0.out _;(with_reducible repeat (first | refine blk_drewN ?_ _ | refine blk_drew ?_ | refine blk_alloc ?_ _));refine blk_far ?_ d0.out _;(with_reducible repeat (first | refine blk_drewN ?_ _ | refine blk_drew ?_ | refine blk_alloc ?_ _));exact b3.out) hb);have e3:=Aside0.mk (blk_below (g:=b4) (o:=.cells #[.int .i64 b0,.int .i64 b1] 23 (0,0)) (by (with_reducible repeat (first | refine blk_drewN ?_ _ | refine blk_drew ?_ | refine blk_alloc ?_ _));refine blk_far ?_ d1.out _;(with_reducible repeat (first | refine blk_drewN ?_ _ | refine blk_drew ?_ | refine blk_alloc ?_ _));refine blk_far ?_ d1.out _;(with_reducible repeat (first | refine blk_drewN ?_ _ | refine blk_drew ?_ | refine blk_alloc ?_ _));exact b2.out) hb);have e7:=Aside0.mk (blk_below (g:=b9) (o:=.cells #[.int .i64 ((rd_T23 l0 b8).f0),.int .i64 ((rd_T23 l0 b8).f1)] 23 (0,0)) (by (with_reducible repeat (first | refine blk_drewN ?_ _ | refine blk_drew ?_ | refine blk_alloc ?_ _));refine blk_put (cs:=#[.int .i64 ((rd_T23 l0 b8).f0),.int .i64 0]) ?_ 1 _ rfl;(with_reducible repeat (first | refine blk_drewN ?_ _ | refine blk_drew ?_ | refine blk_alloc ?_ _));refine blk_put (cs:=#[.int .i64 0,.int .i64 0]) ?_ 0 _ rfl;(with_reducible repeat (first | refine blk_drewN ?_ _ | refine blk_drew ?_ | refine blk_alloc ?_ _));exact d3.out) hb);have e8:=Aside0.mk (below_step (by repeat (first | (with_reducible first | exact HB.out | apply below_alloc | apply pw_below_drewN | apply below_drew1 | refine below_set ?_ b7.out | refine below_set ?_ d2.out | refine below_set ?_ h2.out) | exact HB.out)) hb);clear b3;clear b2;clear d3;clear HB;have b3:=e2;have b2:=e3;have d3:=e7;have HB:=e8;clear e2 e3 e7 e8;(try clear hb);have m0:o4.cell? ⟨b4,0,none⟩ = some (.int .i64 b0):=(blk_cell b2.out 0).trans rfl;have m1:o4.cell? ⟨b4,1,none⟩ = some (.int .i64 b1):=(blk_cell b2.out 1).trans rfl;have m2:=blk_frozen b2.out 0;have m3:=blk_frozen b2.out 1))
   go_roundg k1
   case measure=>have:=n1.out;omega
   case rel=>exact ⟨(wrap64 (b8 + 1)),(e4),(e9),(by first | rfl | (simp;done) | (simp [*];done)),H',⟨by have:=n1.out;omega⟩,⟨by (with_reducible repeat (first | refine blk_drewN ?_ _ | refine blk_drew ?_ | refine blk_alloc ?_ _));refine blk_far ?_ b6.out _;(with_reducible repeat (first | refine blk_drewN ?_ _ | refine blk_drew ?_ | refine blk_alloc ?_ _));refine blk_far ?_ b6.out _;(with_reducible repeat (first | refine blk_drewN ?_ _ | refine blk_drew ?_ | refine blk_alloc ?_ _));exact b3.out⟩,⟨by (with_reducible repeat (first | refine blk_drewN ?_ _ | refine blk_drew ?_ | refine blk_alloc ?_ _));refine blk_put (cs:=#[.int .i64 e4,.int .i64 b1]) ?_ 1 _ rfl;(with_reducible repeat (first | refine blk_drewN ?_ _ | refine blk_drew ?_ | refine blk_alloc ?_ _));refine blk_put (cs:=#[.int .i64 b0,.int .i64 b1]) ?_ 0 _ rfl;(with_reducible repeat (first | refine blk_drewN ?_ _ | refine blk_drew ?_ | refine blk_alloc ?_ _));exact b2.out⟩,⟨by repeat (first | (with_reducible first | exact HB.out | apply below_alloc | apply pw_below_drewN | apply below_drew1 | refine below_set ?_ b7.out | refine below_set ?_ d2.out | refine below_set ?_ h2.out) | exact HB.out)⟩⟩
end Go.Proofs.Ytjohcjfmlhihbaa.G
set_option linter.unusedSectionVars false
namespace Go.Proofs.Ytjohcjfmlhihbaa.P
open Go Go.RowKit Go.Proofs.Ytjohcjfmlhihbaa.G
open Go.Proofs.YtjohcjfmlhihbaaW.PrintWords Go.Proofs.YtjohcjfmlhihbaaW.PrintMore
def inS (w:S23):Prop:=(-9223372036854775808 ≤ w.f0 ∧ w.f0 ≤ 9223372036854775807) ∧ (-9223372036854775808 ≤ w.f1 ∧ w.f1 ≤ 9223372036854775807)
theorem gcd_neg {a:Int} (ha:a < 0) {d:Nat} (hd:0 < d):Ev (fun k=>shares_gcd.f k a (d:Int)) (d:Int):=by
 refine ⟨2,fun k hk=>?_⟩
 obtain ⟨m,rfl⟩:∃ m,k = m + 1 + 1:=⟨k - 2,by omega⟩
 have h0:Int.tmod a (d:Int) ≤ 0:=by
  have:Int.tmod a (d:Int) = -(Int.tmod (-a) (d:Int)):=by rw [Int.neg_tmod,Int.neg_neg]
  rw [this]
  have:=Int.tmod_nonneg (d:Int) (show 0 ≤ -a by omega)
  omega
 show shares_gcd.l0 (m + 1 + 1) a (d:Int) = _
 rw [shares_gcd.l0,if_pos (by omega),if_neg (by omega),shares_gcd.l0,if_neg (by omega)]
theorem ev_valid {n d:Int} (hn:-9223372036854775808 ≤ n ∧ n ≤ 9223372036854775807) (hd:1 ≤ d):∃ b,Ev (fun k=>shares_isValid.f k n d) b ∧ (0 ≤ n → b = decide (Nat.gcd n.natAbs d.toNat = 1)) ∧ (n ≠ -9223372036854775808 → b = decide (Nat.gcd n.natAbs d.toNat = 1)):=by
 obtain ⟨e,rfl⟩:∃ e:Nat,d = (e:Int):=⟨d.toNat,by omega⟩
 unfold shares_isValid.f
 rw [Int.toNat_natCast]
 by_cases h:n = -9223372036854775808
 ·subst h
  have hm:mx (-9223372036854775808) (wrap64 (- -9223372036854775808)) = -9223372036854775808:=by
   have:wrap64 (- -9223372036854775808) = -9223372036854775808:=by unfold wrap64;omega
   rw [this];unfold mx;simp
  refine ⟨((e:Int) == 1),?_,fun h0=>by omega,fun h0=>absurd rfl h0⟩
  refine Ev.congr (fun k=>if_pos (by omega)) ?_
  rw [hm]
  exact Ev.bind (gcd_neg (by omega) (by omega)) (Ev.now _)
 ·refine ⟨decide (Nat.gcd n.natAbs e = 1),?_,fun _=>rfl,fun _=>rfl⟩
  refine Ev.congr (fun k=>if_pos (by omega)) ?_
  rw [mx_abs (by omega)]
  refine Ev.bind (ev_gcd n.natAbs e) ?_
  have:(((Nat.gcd n.natAbs e:Nat):Int) == 1) = decide (Nat.gcd n.natAbs e = 1):=by
   rw [Bool.eq_iff_iff,beq_iff_eq,decide_eq_true_iff];omega
  rw [this]
  exact Ev.now _
theorem within_eq (n lo hi:Int):shares_within.f n lo hi = some (decide (lo ≤ n ∧ n ≤ hi)):=by
 unfold shares_within.f
 by_cases h:n ≥ lo
 ·rw [if_pos h]
  congr 1
  rw [Bool.eq_iff_iff,decide_eq_true_iff,decide_eq_true_iff]
  exact ⟨fun k=>⟨h,k⟩,fun k=>k.2⟩
 ·rw [if_neg h,decide_eq_false (fun k=>h k.1)]
theorem ev_within_any {a:S23} (ha:inS a) {lo hi d:Int} (hlo:-9223372036854775808 < lo):Ev (fun k=>numnahref07_Within.f k a.f0 a.f1 lo hi d) (decide (1 ≤ a.f1 ∧ a.f1 ≤ d ∧ lo ≤ a.f0 ∧ a.f0 ≤ hi ∧ Nat.gcd a.f0.natAbs a.f1.toNat = 1)):=by
 unfold numnahref07_Within.f
 by_cases b1:a.f1 ≥ 1
 ·refine Ev.congr (fun k=>if_pos b1) ?_
  by_cases b2:a.f1 ≤ d
  ·refine Ev.congr (fun k=>if_pos b2) ?_
   by_cases b3:a.f0 ≥ lo
   ·refine Ev.congr (fun k=>if_pos b3) ?_
    by_cases b4:a.f0 ≤ hi
    ·refine Ev.congr (fun k=>if_pos b4) ?_
     have h64:=ha.1
     rw [mx_abs (by omega)]
     obtain ⟨e,he⟩:∃ e:Nat,a.f1 = (e:Int):=⟨a.f1.toNat,by omega⟩
     simp only [ref_gcd,he,Int.toNat_natCast]
     refine Ev.bind (ev_gcd a.f0.natAbs e) ?_
     have:(((Nat.gcd a.f0.natAbs e:Nat):Int) == 1) = decide (1 ≤ (e:Int) ∧ (e:Int) ≤ d ∧ lo ≤ a.f0 ∧ a.f0 ≤ hi ∧ Nat.gcd a.f0.natAbs e = 1):=by
      rw [Bool.eq_iff_iff,beq_iff_eq,decide_eq_true_iff]
      constructor
      ·intro hg;exact ⟨by omega,by omega,b3,b4,by omega⟩
      ·intro hg;omega
     rw [this]
     exact Ev.now _
    ·rw [decide_eq_false (fun k=>b4 k.2.2.2.1)]
     exact Ev.congr (fun k=>if_neg b4) (Ev.now _)
   ·rw [decide_eq_false (fun k=>b3 k.2.2.1)]
    exact Ev.congr (fun k=>if_neg b3) (Ev.now _)
  ·rw [decide_eq_false (fun k=>b2 k.2.1)]
   exact Ev.congr (fun k=>if_neg b2) (Ev.now _)
 ·rw [decide_eq_false (fun k=>b1 k.1)]
  exact Ev.congr (fun k=>if_neg b1) (Ev.now _)
def okW (c:Int) (w:S23):Prop:=1 ≤ w.f1 ∧ w.f1 ≤ 20 ∧ Nat.gcd w.f0.natAbs w.f1.toNat = 1 ∧ 0 ≤ w.f0 ∧ w.f0 ≤ c * w.f1
instance (c:Int) (w:S23):Decidable (okW c w):=by unfold okW;exact inferInstance
structure IsDiv (l:List Int) (E:Int) (x:List Rat):Prop where
 len:x.length = l.length
 ok:∀ i (h1:i < x.length) (h2:i < l.length),0 ≤ x[i] ∧ x[i] ≤ (l[i]:Rat) ∧ x[i].den ≤ 20
 sum:tot x = (E:Rat)
def lcm20:Nat:=232792560
theorem dvd_lcm {d:Nat} (h0:1 ≤ d) (h:d ≤ 20):d ∣ lcm20:=by
 have:∀ d:Fin 20,(d.val + 1) ∣ lcm20:=by decide
 have:=this ⟨d - 1,by omega⟩
 rwa [show d - 1 + 1 = d by omega] at this
end Go.Proofs.Ytjohcjfmlhihbaa.P
namespace Go.Proofs.Ytjohcjfmlhihbaa.G
open Go.RowKit Go.Proofs.YtjohcjfmlhihbaaW.PrintWords Go.Proofs.YtjohcjfmlhihbaaW.PrintLast Go.Proofs.YtjohcjfmlhihbaaW.PrintMore
set_option maxHeartbeats 8000000
set_option maxRecDepth 100000
attribute [local go_sem] cond_true cond_false fld23_0 fld23_1 fld45_0 fld45_1 fld109_0 fld109_1 fld94_0 fld94_1 max2_int min2_int max_two min_two max_three min_three max_four min_four   -- for this text's walks alone
def shares_areShares_1.f (k:Nat) (b2:Int) (b1:Int):Option (Bool):=(shares_within.f b1 1 20).bind fun b7=>(if b7 = true then ((shares_within.f b2 (-1000000) 1000000).bind fun b5=>(if b5 = true then ((shares_isValid.f k b2 b1).bind fun b4=>(some (!b4))) else (some true))) else (some true))
theorem shares_areShares_1.mono:∀ a0 a1 k,LeO (shares_areShares_1.f k a0 a1) (shares_areShares_1.f (k + 1) a0 a1):=by
 intro a0 a1 k
 unfold shares_areShares_1.f
 repeat' first
   | (with_reducible exact shares_isValid.mono _ _ _)
   | (with_reducible exact LeO.refl _)
   | (with_reducible exact LeO.none _)
   | (with_reducible refine LeO.ite ?_ ?_)
   | (with_reducible refine LeO.bind ?_ (fun _=>?_))
   | exact shares_isValid.mono _ _ _
   | exact LeO.none _
   | refine LeO.ite ?_ ?_
   | refine LeO.bind ?_ (fun _=>?_)
theorem shares_areShares_1.calls (k:Nat) (b2:Int) (b1:Int) (r:Bool) (w:World) (h:shares_areShares_1.f k b2 b1 = some r) :
  Calls Try.prog 111 #[.agg #[.int .i64 b2,.int .i64 b1]] w fun e w'=>e = .returned (.bool r) ∧ Below w.heap.size w w':=by
 have e8:=Try.underlying23
 have HB:=Aside0.mk (Below.refl w.heap.size w)
 have H:((shares_within.f b1 1 20).bind fun b7=>(if b7 = true then ((shares_within.f b2 (-1000000) 1000000).bind fun b5=>(if b5 = true then ((shares_isValid.f k b2 b1).bind fun b4=>(some (!b4))) else (some true))) else (some true))) = some r:=h
 clear h
 replace H:=Option.bind_eq_some_iff.mp H
 obtain ⟨b7,e3,H⟩:=H
 replace H:(if b7 = true then ((shares_within.f b2 (-1000000) 1000000).bind fun b5=>(if b5 = true then ((shares_isValid.f k b2 b1).bind fun b4=>(some (!b4))) else (some true))) else (some true)) = some r:=H
 have A2:=Aside0.mk e3
 clear e3
 by_cases c3:b7 = true
 case neg =>
  replace c3:=Bool.eq_false_iff.mpr c3
  subst c3
  have H1:(some true) = some r:=by rw [if_neg (show ¬ (false = true) by decide)] at H;exact H
  clear H
  have H:=H1
  clear H1
  obtain rfl:=Option.some.inj H
  go_enter Try.func111,Try.ntmps111
  go_wp2_with (first | ((with_reducible refine gate_dst (N:=1) rfl ?_);refine box_event ?hg (N:=1) ?hd (cs:=#[.int .i64 b2,.int .i64 b1]) (t:=23) ?hr ?_;(case hd=>rfl);(case hg=>rfl);(case hr=>first | (go_simp;done) | (go_simp;rfl));intro b3 hg e4 hbox hb;have b8:=Aside0.mk (below_step (by repeat (first | (with_reducible first | exact HB.out | apply below_alloc | apply pw_below_drewN | apply below_drew1) | exact HB.out)) hb);have b9:=Aside0.mk (hbox);have c0:=Aside0.mk ((by rw [hg];exact (below_size (by repeat (first | (with_reducible first | exact HB.out | apply below_alloc | apply pw_below_drewN | apply below_drew1) | exact HB.out))):w.heap.size ≤ b3));have c1:=Aside0.mk ((by rw [hg];exact (below_size (by repeat (first | (with_reducible first | exact HB.out | apply below_alloc | apply pw_below_drewN | apply below_drew1) | exact HB.out))):w.heap.size ≤ b3));clear HB;have HB:=b8;have b0:=b9;have d0:=c0;have b6:=c1;clear b8 b9 c0 c1;clear hb hbox hg;have d1:e4.cell? ⟨b3,0,none⟩ = some (.int .i64 b2):=(blk_cell b0.out 0).trans rfl;have d2:e4.cell? ⟨b3,1,none⟩ = some (.int .i64 b1):=(blk_cell b0.out 1).trans rfl;have d3:=blk_frozen b0.out 0;have d4:=blk_frozen b0.out 1) | ((with_reducible refine gate_callee (f:=92) rfl ?_);refine goesL_ (some 5) rfl rfl Try.func92 (by kernel_rfl) rfl #[.int .i64 b1,.int .i64 1,.int .i64 20] rfl (by (try simp only [List.map_toArray,List.map_cons,List.map_nil]);first | done | rfl | (simp only [List.length_drop,List.length_take];rfl)) ?_;(with_reducible refine (shares_within.calls b1 1 20 false _ A2.out).mono ?_);rintro e w' ⟨rfl,⟨nd,rfl⟩⟩;refine ⟨_,rfl,?_⟩))
  go_ret
  exact ⟨by first | rfl | (simp [errW_none,errW_some] <;> rfl) | (simp [*,errW_none,errW_some] <;> rfl),by repeat (first | (with_reducible first | exact HB.out | apply below_alloc | apply pw_below_drewN | apply below_drew1 | refine below_set ?_ b6.out) | exact HB.out)⟩
 subst c3
 have H1:((shares_within.f b2 (-1000000) 1000000).bind fun b5=>(if b5 = true then ((shares_isValid.f k b2 b1).bind fun b4=>(some (!b4))) else (some true))) = some r:=by rw [if_pos rfl] at H;exact H
 clear H
 have H:=H1
 clear H1
 replace H:=Option.bind_eq_some_iff.mp H
 obtain ⟨b5,e5,H⟩:=H
 replace H:(if b5 = true then ((shares_isValid.f k b2 b1).bind fun b4=>(some (!b4))) else (some true)) = some r:=H
 have A4:=Aside0.mk e5
 clear e5
 by_cases c5:b5 = true
 case neg =>
  replace c5:=Bool.eq_false_iff.mpr c5
  subst c5
  have H1:(some true) = some r:=by rw [if_neg (show ¬ (false = true) by decide)] at H;exact H
  clear H
  have H:=H1
  clear H1
  obtain rfl:=Option.some.inj H
  go_enter Try.func111,Try.ntmps111
  go_wp2_with (first | ((with_reducible refine gate_dst (N:=1) rfl ?_);refine box_event ?hg (N:=1) ?hd (cs:=#[.int .i64 b2,.int .i64 b1]) (t:=23) ?hr ?_;(case hd=>rfl);(case hg=>rfl);(case hr=>first | (go_simp;done) | (go_simp;rfl));intro b3 hg e6 hbox hb;have b8:=Aside0.mk (below_step (by repeat (first | (with_reducible first | exact HB.out | apply below_alloc | apply pw_below_drewN | apply below_drew1) | exact HB.out)) hb);have b9:=Aside0.mk (hbox);have c0:=Aside0.mk ((by rw [hg];exact (below_size (by repeat (first | (with_reducible first | exact HB.out | apply below_alloc | apply pw_below_drewN | apply below_drew1) | exact HB.out))):w.heap.size ≤ b3));have c1:=Aside0.mk ((by rw [hg];exact (below_size (by repeat (first | (with_reducible first | exact HB.out | apply below_alloc | apply pw_below_drewN | apply below_drew1) | exact HB.out))):w.heap.size ≤ b3));clear HB;have HB:=b8;have b0:=b9;have d0:=c0;have b6:=c1;clear b8 b9 c0 c1;clear hb hbox hg;have d5:e6.cell? ⟨b3,0,none⟩ = some (.int .i64 b2):=(blk_cell b0.out 0).trans rfl;have d6:e6.cell? ⟨b3,1,none⟩ = some (.int .i64 b1):=(blk_cell b0.out 1).trans rfl;have d7:=blk_frozen b0.out 0;have d8:=blk_frozen b0.out 1) | ((with_reducible refine gate_callee (f:=92) rfl ?_);refine goesL_ (some 5) rfl rfl Try.func92 (by kernel_rfl) rfl #[.int .i64 b1,.int .i64 1,.int .i64 20] rfl (by (try simp only [List.map_toArray,List.map_cons,List.map_nil]);first | done | rfl | (simp only [List.length_drop,List.length_take];rfl)) ?_;(with_reducible refine (shares_within.calls b1 1 20 true _ A2.out).mono ?_);rintro e w' ⟨rfl,⟨nd,rfl⟩⟩;refine ⟨_,rfl,?_⟩) | (go_at_call 92;(with_reducible refine (shares_within.calls b2 (-1000000) 1000000 false _ A4.out).mono ?_);rintro e w' ⟨rfl,⟨nd,rfl⟩⟩))
  go_ret
  exact ⟨by first | rfl | (simp [errW_none,errW_some] <;> rfl) | (simp [*,errW_none,errW_some] <;> rfl),by repeat (first | (with_reducible first | exact HB.out | apply below_alloc | apply pw_below_drewN | apply below_drew1 | refine below_set ?_ b6.out) | exact HB.out)⟩
 subst c5
 have H1:((shares_isValid.f k b2 b1).bind fun b4=>(some (!b4))) = some r:=by rw [if_pos rfl] at H;exact H
 clear H
 have H:=H1
 clear H1
 replace H:=Option.bind_eq_some_iff.mp H
 obtain ⟨b4,e7,H⟩:=H
 replace H:(some (!b4)) = some r:=H
 have A6:=Aside0.mk e7
 clear e7
 obtain rfl:=Option.some.inj H
 go_enter Try.func111,Try.ntmps111
 go_wp2_with (first | ((with_reducible refine gate_dst (N:=1) rfl ?_);refine box_event ?hg (N:=1) ?hd (cs:=#[.int .i64 b2,.int .i64 b1]) (t:=23) ?hr ?_;(case hd=>rfl);(case hg=>rfl);(case hr=>first | (go_simp;done) | (go_simp;rfl));intro b3 hg w7 hbox hb;have b8:=Aside0.mk (below_step (by repeat (first | (with_reducible first | exact HB.out | apply below_alloc | apply pw_below_drewN | apply below_drew1) | exact HB.out)) hb);have b9:=Aside0.mk (hbox);have c0:=Aside0.mk ((by rw [hg];exact (below_size (by repeat (first | (with_reducible first | exact HB.out | apply below_alloc | apply pw_below_drewN | apply below_drew1) | exact HB.out))):w.heap.size ≤ b3));have c1:=Aside0.mk ((by rw [hg];exact (below_size (by repeat (first | (with_reducible first | exact HB.out | apply below_alloc | apply pw_below_drewN | apply below_drew1) | exact HB.out))):w.heap.size ≤ b3));clear HB;have HB:=b8;have b0:=b9;have d0:=c0;have b6:=c1;clear b8 b9 c0 c1;clear hb hbox hg;have d9:w7.cell? ⟨b3,0,none⟩ = some (.int .i64 b2):=(blk_cell b0.out 0).trans rfl;have e0:w7.cell? ⟨b3,1,none⟩ = some (.int .i64 b1):=(blk_cell b0.out 1).trans rfl;have e1:=blk_frozen b0.out 0;have e2:=blk_frozen b0.out 1) | ((with_reducible refine gate_callee (f:=92) rfl ?_);refine goesL_ (some 5) rfl rfl Try.func92 (by kernel_rfl) rfl #[.int .i64 b1,.int .i64 1,.int .i64 20] rfl (by (try simp only [List.map_toArray,List.map_cons,List.map_nil]);first | done | rfl | (simp only [List.length_drop,List.length_take];rfl)) ?_;(with_reducible refine (shares_within.calls b1 1 20 true _ A2.out).mono ?_);rintro e w' ⟨rfl,⟨nd,rfl⟩⟩;refine ⟨_,rfl,?_⟩) | (go_at_call 92;(with_reducible refine (shares_within.calls b2 (-1000000) 1000000 true _ A4.out).mono ?_);rintro e w' ⟨rfl,⟨nd,rfl⟩⟩) | (go_at_call 112;(with_reducible refine (shares_isValid.calls k b2 b1 b4 _ A6.out).mono ?_);rintro e w9 ⟨rfl,hb⟩;have b8:=Aside0.mk (blk_below (g:=b3) (o:=.cells #[.int .i64 b2,.int .i64 b1] 23 (0,0)) (by (with_reducible repeat (first | refine blk_drewN ?_ _ | refine blk_drew ?_ | refine blk_alloc ?_ _));exact b0.out) hb);have b9:=Aside0.mk (below_step (by repeat (first | (with_reducible first | exact HB.out | apply below_alloc | apply pw_below_drewN | apply below_drew1 | refine below_set ?_ b6.out) | exact HB.out)) hb);clear b0;clear HB;have b0:=b8;have HB:=b9;clear b8 b9;(try clear hb)))
 go_ret
 exact ⟨by first | rfl | (simp [errW_none,errW_some] <;> rfl) | (simp [*,errW_none,errW_some] <;> rfl),by repeat (first | (with_reducible first | exact HB.out | apply below_alloc | apply pw_below_drewN | apply below_drew1 | refine below_set ?_ b6.out) | exact HB.out)⟩
def index111.l0:Nat → List (S23) → Int → Int → Option (Int)
 | 0,_,_,_=>none
 | k + 1,x0,x7,x8=>if x8 < x7 then (if 0 ≤ x8 then (if x8 < (x0.length:Int) then ((shares_areShares_1.f k ((rd_T23 x0 x8).f0) ((rd_T23 x0 x8).f1)).bind fun b5=>(if b5 = true then (some x8) else (index111.l0 k x0 x7 (wrap64 (x8 + 1))))) else (none)) else (none)) else (some (-1))
def index111.f (k:Nat) (l0:List (S23)):Option (Int):=index111.l0 k l0 (l0.length:Int) 0
theorem index111.mono_l:∀ k,(∀ y0 y1 y2,LeO (index111.l0 k y0 y1 y2) (index111.l0 (k + 1) y0 y1 y2))
 | 0=>fun _ _ _ r h=>by simp [index111.l0] at h
 | k + 1=>by
  have b8:=index111.mono_l k
  intro y0 y1 y2
  unfold index111.l0
  repeat' first
  | (with_reducible exact b8 _ _ _)
  | (with_reducible exact shares_areShares_1.mono _ _ _)
  | (with_reducible exact LeO.refl _)
  | (with_reducible exact LeO.none _)
  | (with_reducible refine LeO.ite ?_ ?_)
  | (with_reducible refine LeO.bind ?_ (fun _=>?_))
  | exact b8 _ _ _
  | exact shares_areShares_1.mono _ _ _
  | exact LeO.none _
  | refine LeO.ite ?_ ?_
  | refine LeO.bind ?_ (fun _=>?_)
theorem index111.mono:∀ a0 k,LeO (index111.f k a0) (index111.f (k + 1) a0):=by
 intro a0 k
 have b8:=index111.mono_l k
 unfold index111.f
 repeat' first
   | (with_reducible exact b8 _ _ _)
   | (with_reducible exact shares_areShares_1.mono _ _ _)
   | (with_reducible exact LeO.refl _)
   | (with_reducible exact LeO.none _)
   | (with_reducible refine LeO.ite ?_ ?_)
   | (with_reducible refine LeO.bind ?_ (fun _=>?_))
   | exact b8 _ _ _
   | exact shares_areShares_1.mono _ _ _
   | exact LeO.none _
   | refine LeO.ite ?_ ?_
   | refine LeO.bind ?_ (fun _=>?_)
theorem index111.calls (k:Nat) (A0:Option Addr) (c0:Nat) (l0:List (S23)) (r:Int) (w:World) (d1:Kd.C k23 w A0 l0.length l0) (d2:l0.length ≤ c0) (h:index111.f k l0 = some r) :
  Calls Try.prog 126 #[.slice A0 l0.length c0,.func (.func 111) #[] #[]] w fun e w'=>e = .returned (.int .i64 r) ∧ Below w.heap.size w w':=by
 have d6:=Try.underlying23
 have d3:=Aside0.mk d1
 have d9:=Aside0.mk d2
 clear d1 d2
 have HB:=Aside0.mk (Below.refl w.heap.size w)
 have H:(index111.l0 k l0 (l0.length:Int) 0) = some r:=h
 clear h
 have H':=Aside0.mk H
 clear H
 go_enter Try.func126,Try.ntmps126
 go_wp2
 go_loopg [8] k (fun kq v8 w'=>∃ (b0:Int),v8 = .int .i64 b0 ∧ Aside0 (index111.l0 kq l0 (l0.length:Int) b0 = some r) ∧ Aside0 (kq ≤ k) ∧ Aside0 (Below w.heap.size w w'))
 case atStart=>exact ⟨(0),(by first | rfl | (simp;done) | (simp [*];done)),H',⟨Nat.le_refl _⟩,⟨by repeat (first | (with_reducible first | exact HB.out | apply below_alloc | apply pw_below_drewN | apply below_drew1) | exact HB.out)⟩⟩
 case round =>
  clear H'
  try clear c1
  obtain ⟨b0,rfl,HA,d4,HB⟩:=hrel
  cases gk with
  | zero=>exact absurd HA.out (by simp [index111.l0])
  | succ k1 =>
   have H:=HA.out
   clear HA
   simp only [index111.l0] at H
   by_cases c2:b0 < (l0.length:Int)
   case neg =>
    rw [if_neg c2] at H
    have d0:decide (b0 < (l0.length:Int)) = false:=decide_eq_false c2
    clear c2
    obtain rfl:=Option.some.inj H
    go_wp2
    go_ret
    exact ⟨by first | rfl | (simp [errW_none,errW_some] <;> rfl) | (simp [*,errW_none,errW_some] <;> rfl),by repeat (first | (with_reducible first | exact HB.out | apply below_alloc | apply pw_below_drewN | apply below_drew1) | exact HB.out)⟩
   rw [if_pos c2] at H
   have d0:decide (b0 < (l0.length:Int)) = true:=decide_eq_true c2
   clear c2
   by_cases c3:0 ≤ b0
   case neg =>
    rw [if_neg c3] at H
    exact absurd H (by simp)
   rw [if_pos c3] at H
   have d7:decide (0 ≤ b0) = true:=decide_eq_true c3
   clear c3
   by_cases c4:b0 < (l0.length:Int)
   case neg =>
    rw [if_neg c4] at H
    exact absurd H (by simp)
   rw [if_pos c4] at H
   have d8:decide (b0 < (l0.length:Int)) = true:=decide_eq_true c4
   clear c4
   replace H:=Option.bind_eq_some_iff.mp H
   obtain ⟨b5,d5,H⟩:=H
   replace H:(if b5 = true then (some b0) else (index111.l0 k1 l0 (l0.length:Int) (wrap64 (b0 + 1)))) = some r:=H
   have A5:=Aside0.mk d5
   clear d5
   by_cases c6:b5 = true
   ·subst c6
    have H1:(some b0) = some r:=by rw [if_pos rfl] at H;exact H
    clear H
    have H:=H1
    clear H1
    obtain rfl:=Option.some.inj H
    have b3:0 ≤ (b0:Int):=of_decide_eq_true (by first | (with_reducible assumption) | assumption)
    have b4:b0 < (l0.length:Int):=of_decide_eq_true (by first | (with_reducible assumption) | assumption)
    obtain ⟨b7,b6,b1,b2⟩:=at_T23 d3.out b0 b3 b4
    cases b6
    replace b1:=(HB.out.cell (World.block_lt_of_cell? w _ b1)).trans b1
    replace b2:=(HB.out.cell (World.block_lt_of_cell? w _ b2)).trans b2
    replace b3:=eq_true b3
    replace b4:=eq_true b4
    go_wp2_with (first | (go_at_call 111;(with_reducible refine (shares_areShares_1.calls k1 ((rd_T23 l0 b0).f0) ((rd_T23 l0 b0).f1) true _ A5.out).mono ?_);rintro e w7 ⟨rfl,hb⟩;have b9:=Aside0.mk (below_step (by repeat (first | (with_reducible first | exact HB.out | apply below_alloc | apply pw_below_drewN | apply below_drew1) | exact HB.out)) hb);clear HB;have HB:=b9;clear b9;(try clear hb)))
    go_ret
    exact ⟨by first | rfl | (simp [errW_none,errW_some] <;> rfl) | (simp [*,errW_none,errW_some] <;> rfl),by repeat (first | (with_reducible first | exact HB.out | apply below_alloc | apply pw_below_drewN | apply below_drew1) | exact HB.out)⟩
   replace c6:=Bool.eq_false_iff.mpr c6
   subst c6
   have H1:(index111.l0 k1 l0 (l0.length:Int) (wrap64 (b0 + 1))) = some r:=by rw [if_neg (show ¬ (false = true) by decide)] at H;exact H
   clear H
   have H:=H1
   clear H1
   have H':=Aside0.mk H
   clear H
   have b3:0 ≤ (b0:Int):=of_decide_eq_true (by first | (with_reducible assumption) | assumption)
   have b4:b0 < (l0.length:Int):=of_decide_eq_true (by first | (with_reducible assumption) | assumption)
   obtain ⟨b7,b6,b1,b2⟩:=at_T23 d3.out b0 b3 b4
   cases b6
   replace b1:=(HB.out.cell (World.block_lt_of_cell? w _ b1)).trans b1
   replace b2:=(HB.out.cell (World.block_lt_of_cell? w _ b2)).trans b2
   replace b3:=eq_true b3
   replace b4:=eq_true b4
   go_wp2_with (first | (go_at_call 111;(with_reducible refine (shares_areShares_1.calls k1 ((rd_T23 l0 b0).f0) ((rd_T23 l0 b0).f1) false _ A5.out).mono ?_);rintro e w8 ⟨rfl,hb⟩;have b9:=Aside0.mk (below_step (by repeat (first | (with_reducible first | exact HB.out | apply below_alloc | apply pw_below_drewN | apply below_drew1) | exact HB.out)) hb);clear HB;have HB:=b9;clear b9;(try clear hb)))
   go_roundg k1
   case measure=>have:=d4.out;omega
   case rel=>exact ⟨(wrap64 (b0 + 1)),(by first | rfl | (simp;done) | (simp [*];done)),H',⟨by have:=d4.out;omega⟩,⟨by repeat (first | (with_reducible first | exact HB.out | apply below_alloc | apply pw_below_drewN | apply below_drew1) | exact HB.out)⟩⟩
def contains111.f (k:Nat) (l0:List (S23)):Option (Bool):=(index111.f k l0).bind fun b0=>(some (decide (b0 ≥ 0)))
theorem contains111.mono:∀ a0 k,LeO (contains111.f k a0) (contains111.f (k + 1) a0):=by
 intro a0 k
 unfold contains111.f
 repeat' first
   | (with_reducible exact index111.mono _ _)
   | (with_reducible exact LeO.refl _)
   | (with_reducible exact LeO.none _)
   | (with_reducible refine LeO.ite ?_ ?_)
   | (with_reducible refine LeO.bind ?_ (fun _=>?_))
   | exact index111.mono _ _
   | exact LeO.none _
   | refine LeO.ite ?_ ?_
   | refine LeO.bind ?_ (fun _=>?_)
theorem contains111.calls (k:Nat) (A0:Option Addr) (c0:Nat) (l0:List (S23)) (r:Bool) (w:World) (b1:Kd.C k23 w A0 l0.length l0) (b2:l0.length ≤ c0) (h:contains111.f k l0 = some r) :
  Calls Try.prog 110 #[.slice A0 l0.length c0,.func (.func 111) #[] #[]] w fun e w'=>e = .returned (.bool r) ∧ Below w.heap.size w w':=by
 have b5:=Aside0.mk b1
 have b6:=Aside0.mk b2
 clear b1 b2
 have HB:=Aside0.mk (Below.refl w.heap.size w)
 have H:((index111.f k l0).bind fun b0=>(some (decide (b0 ≥ 0)))) = some r:=h
 clear h
 replace H:=Option.bind_eq_some_iff.mp H
 obtain ⟨b0,b3,H⟩:=H
 replace H:(some (decide (b0 ≥ 0))) = some r:=H
 have A2:=Aside0.mk b3
 clear b3
 obtain rfl:=Option.some.inj H
 go_enter Try.func110,Try.ntmps110
 go_wp2_with (first | ((with_reducible refine gate_callee (f:=126) rfl ?_);refine goesL_ (some 7) rfl rfl Try.func126 (by kernel_rfl) rfl #[.slice A0 l0.length c0,.func (.func 111) #[] #[]] rfl (by (try simp only [List.map_toArray,List.map_cons,List.map_nil]);first | done | rfl | (simp only [List.length_drop,List.length_take];rfl)) ?_;(with_reducible refine (index111.calls k _ _ l0 b0 _ ?side1 ?side2 A2.out).mono ?_);(case side1=>repeat (first | exact b5.out | (with_reducible refine Kd.C_alloc ?_ _) | (with_reducible refine Kd.C_drewN ?_ _) | (with_reducible refine Kd.C_drew ?_)));(case side2=>exact b6.out);rintro e w3 ⟨rfl,hb⟩;refine ⟨_,rfl,?_⟩;have b4:=Aside0.mk (below_step (by repeat (first | (with_reducible first | exact HB.out | apply below_alloc | apply pw_below_drewN | apply below_drew1) | exact HB.out)) hb);clear HB;have HB:=b4;clear b4;(try clear hb)))
 go_ret
 exact ⟨by first | rfl | (simp [errW_none,errW_some] <;> rfl) | (simp [*,errW_none,errW_some] <;> rfl),by repeat (first | (with_reducible first | exact HB.out | apply below_alloc | apply pw_below_drewN | apply below_drew1) | exact HB.out)⟩
def shares_areShares.f (k:Nat) (l0:List (S23)):Option (Bool):=if (l0.length:Int) ≤ 10 then ((contains111.f k l0).bind fun b0=>(some (!b0))) else (some false)
theorem shares_areShares.mono:∀ a0 k,LeO (shares_areShares.f k a0) (shares_areShares.f (k + 1) a0):=by
 intro a0 k
 unfold shares_areShares.f
 repeat' first
   | (with_reducible exact contains111.mono _ _)
   | (with_reducible exact LeO.refl _)
   | (with_reducible exact LeO.none _)
   | (with_reducible refine LeO.ite ?_ ?_)
   | (with_reducible refine LeO.bind ?_ (fun _=>?_))
   | exact contains111.mono _ _
   | exact LeO.none _
   | refine LeO.ite ?_ ?_
   | refine LeO.bind ?_ (fun _=>?_)
theorem shares_areShares.calls (k:Nat) (A0:Option Addr) (c0:Nat) (l0:List (S23)) (r:Bool) (w:World) (b3:Kd.C k23 w A0 l0.length l0) (b4:l0.length ≤ c0) (h:shares_areShares.f k l0 = some r) :
  Calls Try.prog 82 #[.slice A0 l0.length c0] w fun e w'=>e = .returned (.bool r) ∧ Below w.heap.size w w':=by
 have b7:=Aside0.mk b3
 have b8:=Aside0.mk b4
 clear b3 b4
 have HB:=Aside0.mk (Below.refl w.heap.size w)
 have H:(if (l0.length:Int) ≤ 10 then ((contains111.f k l0).bind fun b0=>(some (!b0))) else (some false)) = some r:=h
 clear h
 by_cases c2:(l0.length:Int) ≤ 10
 case neg =>
  rw [if_neg c2] at H
  have b1:decide ((l0.length:Int) ≤ 10) = false:=decide_eq_false c2
  have b2:decide (l0.length ≤ 10) = false:=decide_eq_false (by omega)
  clear c2
  obtain rfl:=Option.some.inj H
  go_enter Try.func82,Try.ntmps82
  go_wp2
  go_ret
  exact ⟨by first | rfl | (simp [errW_none,errW_some] <;> rfl) | (simp [*,errW_none,errW_some] <;> rfl),by repeat (first | (with_reducible first | exact HB.out | apply below_alloc | apply pw_below_drewN | apply below_drew1) | exact HB.out)⟩
 rw [if_pos c2] at H
 have b1:decide ((l0.length:Int) ≤ 10) = true:=decide_eq_true c2
 have b2:decide (l0.length ≤ 10) = true:=decide_eq_true (by omega)
 clear c2
 replace H:=Option.bind_eq_some_iff.mp H
 obtain ⟨b0,b5,H⟩:=H
 replace H:(some (!b0)) = some r:=H
 have A3:=Aside0.mk b5
 clear b5
 obtain rfl:=Option.some.inj H
 go_enter Try.func82,Try.ntmps82
 go_wp2_with (first | (go_at_call 110;(with_reducible refine (contains111.calls k _ _ l0 b0 _ ?side1 ?side2 A3.out).mono ?_);(case side1=>repeat (first | exact b7.out | (with_reducible refine Kd.C_alloc ?_ _) | (with_reducible refine Kd.C_drewN ?_ _) | (with_reducible refine Kd.C_drew ?_)));(case side2=>exact b8.out);rintro e w4 ⟨rfl,hb⟩;have b6:=Aside0.mk (below_step (by repeat (first | (with_reducible first | exact HB.out | apply below_alloc | apply pw_below_drewN | apply below_drew1) | exact HB.out)) hb);clear HB;have HB:=b6;clear b6;(try clear hb)))
 go_ret
 exact ⟨by first | rfl | (simp [errW_none,errW_some] <;> rfl) | (simp [*,errW_none,errW_some] <;> rfl),by repeat (first | (with_reducible first | exact HB.out | apply below_alloc | apply pw_below_drewN | apply below_drew1) | exact HB.out)⟩
def shares_Sum.f (k:Nat) (l0:List (S23)):Option (Int × Int × Int):=(shares_areShares.f k l0).bind fun b4=>(if b4 = true then ((shares_sum.f k l0).bind fun b2=>(some (b2.1,b2.2,0))) else (some (0,0,2)))
theorem shares_Sum.mono:∀ a0 k,LeO (shares_Sum.f k a0) (shares_Sum.f (k + 1) a0):=by
 intro a0 k
 unfold shares_Sum.f
 repeat' first
   | (with_reducible exact shares_areShares.mono _ _)
   | (with_reducible exact shares_sum.mono _ _)
   | (with_reducible exact LeO.refl _)
   | (with_reducible exact LeO.none _)
   | (with_reducible refine LeO.ite ?_ ?_)
   | (with_reducible refine LeO.bind ?_ (fun _=>?_))
   | exact shares_areShares.mono _ _
   | exact shares_sum.mono _ _
   | exact LeO.none _
   | refine LeO.ite ?_ ?_
   | refine LeO.bind ?_ (fun _=>?_)
theorem shares_Sum.calls (k:Nat) (A0:Option Addr) (c0:Nat) (l0:List (S23)) (r1:Int) (r2:Int) (r3:Int) (w:World) (e1:Kd.C k23 w A0 l0.length l0) (e2:l0.length ≤ c0) (h:shares_Sum.f k l0 = some (r1,r2,r3)) :
  Calls Try.prog 48 #[.slice A0 l0.length c0] w fun e w'=>e = .returned (.tuple #[.agg #[.int .i64 r1,.int .i64 r2],.int .i64 r3]) ∧ Below w.heap.size w w':=by
 have e5:=Try.underlying23
 have d5:=Aside0.mk e1
 have d6:=Aside0.mk e2
 clear e1 e2
 have HB:=Aside0.mk (Below.refl w.heap.size w)
 have H:((shares_areShares.f k l0).bind fun b4=>(if b4 = true then ((shares_sum.f k l0).bind fun b2=>(some (b2.1,b2.2,0))) else (some (0,0,2)))) = some (r1,r2,r3):=h
 clear h
 replace H:=Option.bind_eq_some_iff.mp H
 obtain ⟨b4,e3,H⟩:=H
 replace H:(if b4 = true then ((shares_sum.f k l0).bind fun b2=>(some (b2.1,b2.2,0))) else (some (0,0,2))) = some (r1,r2,r3):=H
 have A2:=Aside0.mk e3
 clear e3
 by_cases c3:b4 = true
 case neg =>
  replace c3:=Bool.eq_false_iff.mpr c3
  subst c3
  have H1:(some (0,0,2)) = some (r1,r2,r3):=by rw [if_neg (show ¬ (false = true) by decide)] at H;exact H
  clear H
  have H:=H1
  clear H1
  simp only [Option.some.injEq,Prod.mk.injEq] at H
  obtain ⟨rfl,rfl,rfl⟩:=H
  go_enter Try.func48,Try.ntmps48
  go_wp2_with (first | ((with_reducible refine gate_dst (N:=2) rfl ?_);refine box_event ?hg (N:=2) ?hd (cs:=#[.int .i64 0,.int .i64 0]) (t:=23) ?hr ?_;(case hd=>rfl);(case hg=>rfl);(case hr=>first | (go_simp;done) | (go_simp;rfl));intro b1 hg w9 hbox hb;have b5:=Aside0.mk (below_step (by repeat (first | (with_reducible first | exact HB.out | apply below_alloc | apply pw_below_drewN | apply below_drew1) | exact HB.out)) hb);have b6:=Aside0.mk (hbox);have c1:=Aside0.mk ((by rw [hg];exact (below_size (by repeat (first | (with_reducible first | exact HB.out | apply below_alloc | apply pw_below_drewN | apply below_drew1) | exact HB.out))):w.heap.size ≤ b1));have d0:=Aside0.mk ((by rw [hg];exact (below_size (by repeat (first | (with_reducible first | exact HB.out | apply below_alloc | apply pw_below_drewN | apply below_drew1) | exact HB.out))):w.heap.size ≤ b1));clear HB;have HB:=b5;have b0:=b6;have b9:=c1;have b3:=d0;clear b5 b6 c1 d0;clear hb hbox hg) | ((with_reducible refine gate_callee (f:=82) rfl ?_);refine goesL_ (some 5) rfl rfl Try.func82 (by kernel_rfl) rfl #[.slice A0 l0.length c0] rfl (by (try simp only [List.map_toArray,List.map_cons,List.map_nil]);first | done | rfl | (simp only [List.length_drop,List.length_take];rfl)) ?_;(with_reducible refine (shares_areShares.calls k _ _ l0 false _ ?side1 ?side2 A2.out).mono ?_);(case side1=>repeat (first | exact (Kd.C_below d5.out HB.out) | (with_reducible refine Kd.C_alloc ?_ _) | (with_reducible refine Kd.C_drewN ?_ _) | (with_reducible refine Kd.C_drew ?_)));(case side2=>exact d6.out);rintro e e4 ⟨rfl,hb⟩;refine ⟨_,rfl,?_⟩;have b5:=Aside0.mk (blk_below (g:=b1) (o:=.cells #[.int .i64 0,.int .i64 0] 23 (0,0)) (by (with_reducible repeat (first | refine blk_drewN ?_ _ | refine blk_drew ?_ | refine blk_alloc ?_ _));exact b0.out) hb);have b6:=Aside0.mk (below_step (by repeat (first | (with_reducible first | exact HB.out | apply below_alloc | apply pw_below_drewN | apply below_drew1 | refine below_set ?_ b3.out) | exact HB.out)) hb);clear b0;clear HB;have b0:=b5;have HB:=b6;clear b5 b6;(try clear hb);have d1:e4.cell? ⟨b1,0,none⟩ = some (.int .i64 0):=(blk_cell b0.out 0).trans rfl;have d2:e4.cell? ⟨b1,1,none⟩ = some (.int .i64 0):=(blk_cell b0.out 1).trans rfl;have d3:=blk_frozen b0.out 0;have d4:=blk_frozen b0.out 1))
  refine bodyPost_ret (results_ct rfl _ _ b1 23 #[.int .i64 0,.int .i64 0] (0,0) _ rfl (by (with_reducible repeat (first | refine blk_drewN ?_ _ | refine blk_drew ?_ | refine blk_alloc ?_ _));refine blk_put (cs:=#[.int .i64 0,.int .i64 0]) ?_ 1 _ rfl;(with_reducible repeat (first | refine blk_drewN ?_ _ | refine blk_drew ?_ | refine blk_alloc ?_ _));refine blk_put (cs:=#[.int .i64 0,.int .i64 0]) ?_ 0 _ rfl;(with_reducible repeat (first | refine blk_drewN ?_ _ | refine blk_drew ?_ | refine blk_alloc ?_ _));exact b0.out) Try.underlying23 rfl (by kernel_rfl)) rfl ?_
  exact ⟨by first | rfl | (simp [errW_none,errW_some] <;> rfl) | (simp [*,errW_none,errW_some] <;> rfl),by repeat (first | (with_reducible first | exact HB.out | apply below_alloc | apply pw_below_drewN | apply below_drew1 | refine below_set ?_ b3.out) | exact HB.out)⟩
 subst c3
 have H1:((shares_sum.f k l0).bind fun b2=>(some (b2.1,b2.2,0))) = some (r1,r2,r3):=by rw [if_pos rfl] at H;exact H
 clear H
 have H:=H1
 clear H1
 replace H:=Option.bind_eq_some_iff.mp H
 obtain ⟨⟨b7,b8⟩,A40,H⟩:=H
 replace H:(some (b7,b8,0)) = some (r1,r2,r3):=H
 have A4:=Aside0.mk A40
 clear A40
 simp only [Option.some.injEq,Prod.mk.injEq] at H
 obtain ⟨rfl,rfl,rfl⟩:=H
 go_enter Try.func48,Try.ntmps48
 go_wp2_with (first | ((with_reducible refine gate_dst (N:=2) rfl ?_);refine box_event ?hg (N:=2) ?hd (cs:=#[.int .i64 0,.int .i64 0]) (t:=23) ?hr ?_;(case hd=>rfl);(case hg=>rfl);(case hr=>first | (go_simp;done) | (go_simp;rfl));intro b1 hg w5 hbox hb;have b5:=Aside0.mk (below_step (by repeat (first | (with_reducible first | exact HB.out | apply below_alloc | apply pw_below_drewN | apply below_drew1) | exact HB.out)) hb);have b6:=Aside0.mk (hbox);have c1:=Aside0.mk ((by rw [hg];exact (below_size (by repeat (first | (with_reducible first | exact HB.out | apply below_alloc | apply pw_below_drewN | apply below_drew1) | exact HB.out))):w.heap.size ≤ b1));have d0:=Aside0.mk ((by rw [hg];exact (below_size (by repeat (first | (with_reducible first | exact HB.out | apply below_alloc | apply pw_below_drewN | apply below_drew1) | exact HB.out))):w.heap.size ≤ b1));clear HB;have HB:=b5;have b0:=b6;have b9:=c1;have b3:=d0;clear b5 b6 c1 d0;clear hb hbox hg) | ((with_reducible refine gate_callee (f:=82) rfl ?_);refine goesL_ (some 5) rfl rfl Try.func82 (by kernel_rfl) rfl #[.slice A0 l0.length c0] rfl (by (try simp only [List.map_toArray,List.map_cons,List.map_nil]);first | done | rfl | (simp only [List.length_drop,List.length_take];rfl)) ?_;(with_reducible refine (shares_areShares.calls k _ _ l0 true _ ?side1 ?side2 A2.out).mono ?_);(case side1=>repeat (first | exact (Kd.C_below d5.out HB.out) | (with_reducible refine Kd.C_alloc ?_ _) | (with_reducible refine Kd.C_drewN ?_ _) | (with_reducible refine Kd.C_drew ?_)));(case side2=>exact d6.out);rintro e w6 ⟨rfl,hb⟩;refine ⟨_,rfl,?_⟩;have b5:=Aside0.mk (blk_below (g:=b1) (o:=.cells #[.int .i64 0,.int .i64 0] 23 (0,0)) (by (with_reducible repeat (first | refine blk_drewN ?_ _ | refine blk_drew ?_ | refine blk_alloc ?_ _));exact b0.out) hb);have b6:=Aside0.mk (below_step (by repeat (first | (with_reducible first | exact HB.out | apply below_alloc | apply pw_below_drewN | apply below_drew1 | refine below_set ?_ b3.out) | exact HB.out)) hb);clear b0;clear HB;have b0:=b5;have HB:=b6;clear b5 b6;(try clear hb)) | ((with_reducible refine gate_callee (f:=83) rfl ?_);refine goesL_ (some 9) rfl rfl Try.func83 (by kernel_rfl) rfl #[.slice A0 l0.length c0] rfl (by (try simp only [List.map_toArray,List.map_cons,List.map_nil]);first | done | rfl | (simp only [List.length_drop,List.length_take];rfl)) ?_;(with_reducible refine (shares_sum.calls k _ _ l0 b7 b8 _ ?side1 ?side2 A4.out).mono ?_);(case side1=>repeat (first | exact (Kd.C_below d5.out HB.out) | (with_reducible refine Kd.C_alloc ?_ _) | (with_reducible refine Kd.C_drewN ?_ _) | (with_reducible refine Kd.C_drew ?_)));(case side2=>exact d6.out);rintro e w7 ⟨rfl,hb⟩;refine ⟨_,rfl,?_⟩;have b5:=Aside0.mk (blk_below (g:=b1) (o:=.cells #[.int .i64 0,.int .i64 0] 23 (0,0)) (by (with_reducible repeat (first | refine blk_drewN ?_ _ | refine blk_drew ?_ | refine blk_alloc ?_ _));exact b0.out) hb);have b6:=Aside0.mk (below_step (by repeat (first | (with_reducible first | exact HB.out | apply below_alloc | apply pw_below_drewN | apply below_drew1 | refine below_set ?_ b3.out) | exact HB.out)) hb);clear b0;clear HB;have b0:=b5;have HB:=b6;clear b5 b6;(try clear hb);have d7:w7.cell? ⟨b1,0,none⟩ = some (.int .i64 0):=(blk_cell b0.out 0).trans rfl;have d8:w7.cell? ⟨b1,1,none⟩ = some (.int .i64 0):=(blk_cell b0.out 1).trans rfl;have d9:=blk_frozen b0.out 0;have e0:=blk_frozen b0.out 1))
 refine bodyPost_ret (results_ct rfl _ _ b1 23 #[.int .i64 b7,.int .i64 b8] (0,0) _ rfl (by (with_reducible repeat (first | refine blk_drewN ?_ _ | refine blk_drew ?_ | refine blk_alloc ?_ _));refine blk_put (cs:=#[.int .i64 b7,.int .i64 0]) ?_ 1 _ rfl;(with_reducible repeat (first | refine blk_drewN ?_ _ | refine blk_drew ?_ | refine blk_alloc ?_ _));refine blk_put (cs:=#[.int .i64 0,.int .i64 0]) ?_ 0 _ rfl;(with_reducible repeat (first | refine blk_drewN ?_ _ | refine blk_drew ?_ | refine blk_alloc ?_ _));exact b0.out) Try.underlying23 rfl (by kernel_rfl)) rfl ?_
 exact ⟨by first | rfl | (simp [errW_none,errW_some] <;> rfl) | (simp [*,errW_none,errW_some] <;> rfl),by repeat (first | (with_reducible first | exact HB.out | apply below_alloc | apply pw_below_drewN | apply below_drew1 | refine below_set ?_ b3.out) | exact HB.out)⟩
def shares_Sorted.l0:Nat → List (S23) → List (S23) → List Int → Int → Int → Option ((List (S23)) × Int)
 | 0,_,_,_,_,_=>none
 | k + 1,x0,x4,d8,x12,d4=>if d4 < x12 then (if 0 ≤ d4 then (if d4 < (d8.length:Int) then (if 0 ≤ (rd d8 d4) then (if (rd d8 d4) < (x0.length:Int) then (if x4.length < 8796093022208 then (shares_Sorted.l0 k x0 (x4 ++ [(⟨(rd_T23 x0 (rd d8 d4)).f0,(rd_T23 x0 (rd d8 d4)).f1⟩:S23)]) d8 x12 (wrap64 (d4 + 1))) else (none)) else (none)) else (none)) else (none)) else (none)) else (some (x4,0))
def shares_Sorted.f (k:Nat) (l0:List (S23)):Option ((List (S23)) × Int):=(shares_areShares.f k l0).bind fun b5=>(if b5 = true then ((by_compare.f k l0).bind fun b0=>(shares_Sorted.l0 k l0 ([]:List (S23)) b0 (b0.length:Int) 0)) else (some (([]:List (S23)),2)))
theorem shares_Sorted.mono_l:∀ k,(∀ y0 y1 y2 y3 y4,LeO (shares_Sorted.l0 k y0 y1 y2 y3 y4) (shares_Sorted.l0 (k + 1) y0 y1 y2 y3 y4))
 | 0=>fun _ _ _ _ _ r h=>by simp [shares_Sorted.l0] at h
 | k + 1=>by
  have d9:=shares_Sorted.mono_l k
  intro y0 y1 y2 y3 y4
  unfold shares_Sorted.l0
  repeat' first
  | (with_reducible exact d9 _ _ _ _ _)
  | (with_reducible exact by_compare.mono _ _)
  | (with_reducible exact shares_areShares.mono _ _)
  | (with_reducible exact LeO.refl _)
  | (with_reducible exact LeO.none _)
  | (with_reducible refine LeO.ite ?_ ?_)
  | (with_reducible refine LeO.bind ?_ (fun _=>?_))
  | exact d9 _ _ _ _ _
  | exact by_compare.mono _ _
  | exact shares_areShares.mono _ _
  | exact LeO.none _
  | refine LeO.ite ?_ ?_
  | refine LeO.bind ?_ (fun _=>?_)
theorem shares_Sorted.mono:∀ a0 k,LeO (shares_Sorted.f k a0) (shares_Sorted.f (k + 1) a0):=by
 intro a0 k
 have d9:=shares_Sorted.mono_l k
 unfold shares_Sorted.f
 repeat' first
   | (with_reducible exact d9 _ _ _ _ _)
   | (with_reducible exact by_compare.mono _ _)
   | (with_reducible exact shares_areShares.mono _ _)
   | (with_reducible exact LeO.refl _)
   | (with_reducible exact LeO.none _)
   | (with_reducible refine LeO.ite ?_ ?_)
   | (with_reducible refine LeO.bind ?_ (fun _=>?_))
   | exact d9 _ _ _ _ _
   | exact by_compare.mono _ _
   | exact shares_areShares.mono _ _
   | exact LeO.none _
   | refine LeO.ite ?_ ?_
   | refine LeO.bind ?_ (fun _=>?_)
theorem shares_Sorted.calls (k:Nat) (A0:Option Addr) (c0:Nat) (l0:List (S23)) (r1:List (S23)) (r2:Int) (w:World) (h4:Kd.C k23 w A0 l0.length l0) (h5:l0.length ≤ c0) (h:shares_Sorted.f k l0 = some (r1,r2)) :
  Calls Try.prog 49 #[.slice A0 l0.length c0] w fun e w'=>∃ h6:Value,e = .returned (.tuple #[h6,.int .i64 r2]) ∧ Kd.R k23 23 w' w.heap.size (fun _=>True) h6 r1 ∧ Below w.heap.size w w':=by
 have i7:=Try.underlying23
 have e5:=Aside0.mk h4
 have e9:=Aside0.mk h5
 clear h4 h5
 have HB:=Aside0.mk (Below.refl w.heap.size w)
 have H:((shares_areShares.f k l0).bind fun b5=>(if b5 = true then ((by_compare.f k l0).bind fun b0=>(shares_Sorted.l0 k l0 ([]:List (S23)) b0 (b0.length:Int) 0)) else (some (([]:List (S23)),2)))) = some (r1,r2):=h
 clear h
 replace H:=Option.bind_eq_some_iff.mp H
 obtain ⟨b5,h7,H⟩:=H
 replace H:(if b5 = true then ((by_compare.f k l0).bind fun b0=>(shares_Sorted.l0 k l0 ([]:List (S23)) b0 (b0.length:Int) 0)) else (some (([]:List (S23)),2))) = some (r1,r2):=H
 have A2:=Aside0.mk h7
 clear h7
 by_cases c3:b5 = true
 case neg =>
  replace c3:=Bool.eq_false_iff.mpr c3
  subst c3
  have H1:(some (([]:List (S23)),2)) = some (r1,r2):=by rw [if_neg (show ¬ (false = true) by decide)] at H;exact H
  clear H
  have H:=H1
  clear H1
  simp only [Option.some.injEq,Prod.mk.injEq] at H
  obtain ⟨rfl,rfl⟩:=H
  go_enter Try.func49,Try.ntmps49
  go_wp2_with (first | ((with_reducible refine gate_callee (f:=82) rfl ?_);refine goesL_ (some 8) rfl rfl Try.func82 (by kernel_rfl) rfl #[.slice A0 l0.length c0] rfl (by (try simp only [List.map_toArray,List.map_cons,List.map_nil]);first | done | rfl | (simp only [List.length_drop,List.length_take];rfl)) ?_;(with_reducible refine (shares_areShares.calls k _ _ l0 false _ ?side1 ?side2 A2.out).mono ?_);(case side1=>repeat (first | exact e5.out | (with_reducible refine Kd.C_alloc ?_ _) | (with_reducible refine Kd.C_drewN ?_ _) | (with_reducible refine Kd.C_drew ?_)));(case side2=>exact e9.out);rintro e j9 ⟨rfl,hb⟩;refine ⟨_,rfl,?_⟩;have b8:=Aside0.mk (below_step (by repeat (first | (with_reducible first | exact HB.out | apply below_alloc | apply pw_below_drewN | apply below_drew1) | exact HB.out)) hb);clear HB;have HB:=b8;clear b8;(try clear hb)))
  go_ret2
  exact ⟨_,by first | rfl | (simp [errW_none,errW_some] <;> rfl) | (simp [*,errW_none,errW_some] <;> rfl),by first | exact Kd.R_nil _ _ _ _ _ | exact Kd.N_nil _ _ _ _ _ | exact Kd.V_nil _ _ _ _ _ | exact Kd.Q_nil _ _ _ _ _ | exact Kd.S_nil _ _ _ _ _,by repeat (first | (with_reducible first | exact HB.out | apply below_alloc | apply pw_below_drewN | apply below_drew1) | exact HB.out)⟩
 subst c3
 have H1:((by_compare.f k l0).bind fun b0=>(shares_Sorted.l0 k l0 ([]:List (S23)) b0 (b0.length:Int) 0)) = some (r1,r2):=by rw [if_pos rfl] at H;exact H
 clear H
 have H:=H1
 clear H1
 replace H:=Option.bind_eq_some_iff.mp H
 obtain ⟨b0,h8,H⟩:=H
 replace H:(shares_Sorted.l0 k l0 ([]:List (S23)) b0 (b0.length:Int) 0) = some (r1,r2):=H
 have A4:=Aside0.mk h8
 clear h8
 have H':=Aside0.mk H
 clear H
 go_enter Try.func49,Try.ntmps49
 go_wp2_with (first | ((with_reducible refine gate_callee (f:=82) rfl ?_);refine goesL_ (some 8) rfl rfl Try.func82 (by kernel_rfl) rfl #[.slice A0 l0.length c0] rfl (by (try simp only [List.map_toArray,List.map_cons,List.map_nil]);first | done | rfl | (simp only [List.length_drop,List.length_take];rfl)) ?_;(with_reducible refine (shares_areShares.calls k _ _ l0 true _ ?side1 ?side2 A2.out).mono ?_);(case side1=>repeat (first | exact e5.out | (with_reducible refine Kd.C_alloc ?_ _) | (with_reducible refine Kd.C_drewN ?_ _) | (with_reducible refine Kd.C_drew ?_)));(case side2=>exact e9.out);rintro e w5 ⟨rfl,hb⟩;refine ⟨_,rfl,?_⟩;have b8:=Aside0.mk (below_step (by repeat (first | (with_reducible first | exact HB.out | apply below_alloc | apply pw_below_drewN | apply below_drew1) | exact HB.out)) hb);clear HB;have HB:=b8;clear b8;(try clear hb)) | ((with_reducible refine gate_callee (f:=84) rfl ?_);refine goesL_ (some 11) rfl rfl Try.func84 (by kernel_rfl) rfl #[.slice A0 l0.length c0,.func (.func 85) #[] #[]] rfl (by (try simp only [List.map_toArray,List.map_cons,List.map_nil]);first | done | rfl | (simp only [List.length_drop,List.length_take];rfl)) ?_;(with_reducible refine (by_compare.calls k _ _ l0 b0 _ ?side1 ?side2 A4.out).mono ?_);(case side1=>repeat (first | exact (Kd.C_below e5.out HB.out) | (with_reducible refine Kd.C_alloc ?_ _) | (with_reducible refine Kd.C_drewN ?_ _) | (with_reducible refine Kd.C_drew ?_)));(case side2=>exact e9.out);rintro e w6 ⟨h9,rfl,i0,hb⟩;refine ⟨_,rfl,?_⟩;have b8:=Aside0.mk (Kd.R_lower i0 (below_size (by repeat (first | (with_reducible first | exact HB.out | apply below_alloc | apply pw_below_drewN | apply below_drew1) | exact HB.out))));have e0:=Aside0.mk (below_step (by repeat (first | (with_reducible first | exact HB.out | apply below_alloc | apply pw_below_drewN | apply below_drew1) | exact HB.out)) hb);clear HB;have b9:=b8;have HB:=e0;clear b8 e0;(try clear hb);(try clear i0);obtain ⟨i8,i9,j5⟩:=Kd.R_slice b9.out;subst j5))
 go_loopg [4,13] k (fun kq v4 j7 w'=>∃ (b7:List (S23)) (b1:Int),j7 = .int .i64 b1 ∧ Aside0 (shares_Sorted.l0 kq l0 b7 b0 (b0.length:Int) b1 = some (r1,r2)) ∧ Aside0 (kq ≤ k) ∧ Aside0 (Kd.R k23 23 w' w.heap.size (fun _=>True) v4 b7) ∧ Aside0 (Kd.R (Kd.int .i64) 3 w' w.heap.size (fun _=>True) (.slice i8 b0.length i9) b0) ∧ Aside0 (Below w.heap.size w w'))
 case atStart=>exact ⟨(([]:List (S23))),(0),(by first | rfl | (simp;done) | (simp [*];done)),H',⟨Nat.le_refl _⟩,⟨by first | exact Kd.R_nil _ _ _ _ _ | exact Kd.N_nil _ _ _ _ _ | exact Kd.V_nil _ _ _ _ _ | exact Kd.Q_nil _ _ _ _ _ | exact Kd.S_nil _ _ _ _ _⟩,⟨by (with_reducible repeat (first | apply Kd.R_alloc | apply Kd.R_drewN | apply Kd.R_drew));exact b9.out⟩,⟨by repeat (first | (with_reducible first | exact HB.out | apply below_alloc | apply pw_below_drewN | apply below_drew1) | exact HB.out)⟩⟩
 case round =>
  clear H'
  try clear p2
  try clear c3
  try clear c4
  obtain ⟨b7,b1,rfl,HA,i1,d3,b6,HB⟩:=hrel
  cases gk with
  | zero=>exact absurd HA.out (by simp [shares_Sorted.l0])
  | succ k1 =>
   have H:=HA.out
   clear HA
   simp only [shares_Sorted.l0] at H
   by_cases c8:b1 < (b0.length:Int)
   case neg =>
    rw [if_neg c8] at H
    have h0:decide (b1 < (b0.length:Int)) = false:=decide_eq_false c8
    clear c8
    simp only [Option.some.injEq,Prod.mk.injEq] at H
    obtain ⟨rfl,rfl⟩:=H
    go_wp2
    go_ret2
    exact ⟨_,by first | rfl | (simp [errW_none,errW_some] <;> rfl) | (simp [*,errW_none,errW_some] <;> rfl),by (with_reducible repeat (first | apply Kd.R_alloc | apply Kd.R_drewN | apply Kd.R_drew));exact d3.out,by repeat (first | (with_reducible first | exact HB.out | apply below_alloc | apply pw_below_drewN | apply below_drew1) | exact HB.out)⟩
   rw [if_pos c8] at H
   have h0:decide (b1 < (b0.length:Int)) = true:=decide_eq_true c8
   clear c8
   by_cases c9:0 ≤ b1
   case neg =>
    rw [if_neg c9] at H
    exact absurd H (by simp)
   rw [if_pos c9] at H
   have j8:decide (0 ≤ b1) = true:=decide_eq_true c9
   clear c9
   by_cases c10:b1 < (b0.length:Int)
   case neg =>
    rw [if_neg c10] at H
    exact absurd H (by simp)
   rw [if_pos c10] at H
   have i2:decide (b1 < (b0.length:Int)) = true:=decide_eq_true c10
   clear c10
   by_cases e6:0 ≤ (rd b0 b1)
   case neg =>
    rw [if_neg e6] at H
    exact absurd H (by simp)
   rw [if_pos e6] at H
   have i3:decide (0 ≤ (rd b0 b1)) = true:=decide_eq_true e6
   clear e6
   by_cases e7:(rd b0 b1) < (l0.length:Int)
   case neg =>
    rw [if_neg e7] at H
    exact absurd H (by simp)
   rw [if_pos e7] at H
   have i4:decide ((rd b0 b1) < (l0.length:Int)) = true:=decide_eq_true e7
   clear e7
   by_cases e8:b7.length < 8796093022208
   case neg =>
    rw [if_neg e8] at H
    exact absurd H (by simp)
   rw [if_pos e8] at H
   have e1:=Aside0.mk e8
   clear e8
   obtain ⟨d5,b2⟩:∃ y_:List (S23),y_ = (b7 ++ [(⟨(rd_T23 l0 (rd b0 b1)).f0,(rd_T23 l0 (rd b0 b1)).f1⟩:S23)]):=⟨_,rfl⟩
   replace H:(shares_Sorted.l0 k1 l0 d5 b0 (b0.length:Int) (wrap64 (b1 + 1))) = some (r1,r2):=by first | (rw [b2];with_reducible exact H) | (have h1:=(Option.bind_some _ _).symm.trans H;rw [b2];with_reducible exact h1) | (have h1:=(Option.bind_some _ _).symm.trans H;with_reducible exact h1) | with_reducible exact H | (rw [b2];exact H) | exact H
   have d6:=Aside0.mk b2
   clear b2
   have H':=Aside0.mk H
   clear H
   have c1:0 ≤ (b1:Int):=of_decide_eq_true (by first | (with_reducible assumption) | assumption)
   have d0:b1 < (b0.length:Int):=of_decide_eq_true (by first | (with_reducible assumption) | assumption)
   obtain ⟨h2,e2,e3⟩:=Kd.at_int (Kd.R_reads' b6.out).2.2 b1 c1 d0
   cases e2
   replace c1:=eq_true c1
   replace d0:=eq_true d0
   have d1:0 ≤ ((rd b0 b1):Int):=of_decide_eq_true (by first | (with_reducible assumption) | assumption)
   have d2:(rd b0 b1) < (l0.length:Int):=of_decide_eq_true (by first | (with_reducible assumption) | assumption)
   obtain ⟨h3,e4,b3,b4⟩:=at_T23 e5.out (rd b0 b1) d1 d2
   cases e4
   replace b3:=(HB.out.cell (World.block_lt_of_cell? w _ b3)).trans b3
   replace b4:=(HB.out.cell (World.block_lt_of_cell? w _ b4)).trans b4
   replace d1:=eq_true d1
   replace d2:=eq_true d2
   go_wp2_with (first | ((with_reducible refine gate_builtin (b:=.append) (xs:=#[.tmp 17,.tmp 22]) rfl ?_);at_builtin;refine Kd.R_append k23 (w0:=w) w.heap.size rfl (.tmp 17) (.tmp 22) 35 23 (.agg #[(.int .i64 0),(.int .i64 0)]) 16 rfl Try.underlying35 info23 rfl (by decide) (by omega) u4 b7 (⟨(rd_T23 l0 (rd b0 b1)).f0,(rd_T23 l0 (rd b0 b1)).f1⟩:S23) [.int .i64 ((rd_T23 l0 (rd b0 b1)).f0),.int .i64 ((rd_T23 l0 (rd b0 b1)).f1)] (fun _=>True) (fun _=>False) rfl rfl ?aP (fun _ hk=>hk.elim) ?aF ?aO ?aB ?aS ?aL ?_;(case aP=>exact k23_mkM _ _ _ (⟨(rd_T23 l0 (rd b0 b1)).f0,(rd_T23 l0 (rd b0 b1)).f1⟩:S23));(case aB=>exact (by repeat (first | (with_reducible first | exact HB.out | apply below_alloc | apply pw_below_drewN | apply below_drew1) | exact HB.out)));(case aF=>exact (fun _ _=>trivial));(case aO=>exact (by (with_reducible repeat (first | apply Kd.R_alloc | apply Kd.R_drewN | apply Kd.R_drew));exact d3.out));(case aS=>exact (below_size (by repeat (first | (with_reducible first | exact HB.out | apply below_alloc | apply pw_below_drewN | apply below_drew1) | exact HB.out))));(case aL=>have:=e1.out;omega);intro i5 l5 ho hb hg hat;rw [← d6.out] at ho;have b8:=Aside0.mk (Kd.R_over' (by (with_reducible repeat (first | apply Kd.R_alloc | apply Kd.R_drewN | apply Kd.R_drew));exact b6.out) (Kd.R_typed (by (with_reducible repeat (first | apply Kd.R_alloc | apply Kd.R_drewN | apply Kd.R_drew));exact d3.out)) (by decide) hg);have e0:=Aside0.mk (hb);have i6:=Aside0.mk (ho);clear b6;clear HB;clear d3;have b6:=b8;have HB:=e0;have d7:=i6;clear b8 e0 i6;clear ho hb hg hat))
   go_roundg k1
   case measure=>have:=i1.out;omega
   case rel=>exact ⟨(d5),(wrap64 (b1 + 1)),(by first | rfl | (simp;done) | (simp [*];done)),H',⟨by have:=i1.out;omega⟩,⟨by (with_reducible repeat (first | apply Kd.R_alloc | apply Kd.R_drewN | apply Kd.R_drew));exact d7.out⟩,⟨by (with_reducible repeat (first | apply Kd.R_alloc | apply Kd.R_drewN | apply Kd.R_drew));exact b6.out⟩,⟨by repeat (first | (with_reducible first | exact HB.out | apply below_alloc | apply pw_below_drewN | apply below_drew1) | exact HB.out)⟩⟩
def numnahref07_Small.f (k:Nat) (b2:Int) (b3:Int):Option (Bool):=(numnahref07_Within.f k b2 b3 (-1000000) 1000000 20).bind fun b4=>(some b4)
theorem numnahref07_Small.mono:∀ a0 a1 k,LeO (numnahref07_Small.f k a0 a1) (numnahref07_Small.f (k + 1) a0 a1):=by
 intro a0 a1 k
 unfold numnahref07_Small.f
 repeat' first
   | (with_reducible exact numnahref07_Within.mono _ _ _ _ _ _)
   | (with_reducible exact LeO.refl _)
   | (with_reducible exact LeO.none _)
   | (with_reducible refine LeO.ite ?_ ?_)
   | (with_reducible refine LeO.bind ?_ (fun _=>?_))
   | exact numnahref07_Within.mono _ _ _ _ _ _
   | exact LeO.none _
   | refine LeO.ite ?_ ?_
   | refine LeO.bind ?_ (fun _=>?_)
theorem numnahref07_Small.calls (k:Nat) (b2:Int) (b3:Int) (r:Bool) (w:World) (h:numnahref07_Small.f k b2 b3 = some r) :
  Calls Try.prog 50 #[.agg #[.int .i64 b2,.int .i64 b3]] w fun e w'=>e = .returned (.bool r) ∧ Below w.heap.size w w':=by
 have d4:=Try.underlying23
 have HB:=Aside0.mk (Below.refl w.heap.size w)
 have H:((numnahref07_Within.f k b2 b3 (-1000000) 1000000 20).bind fun b4=>(some b4)) = some r:=h
 clear h
 replace H:=Option.bind_eq_some_iff.mp H
 obtain ⟨b4,d1,H⟩:=H
 replace H:(some b4) = some r:=H
 have A2:=Aside0.mk d1
 clear d1
 obtain rfl:=Option.some.inj H
 go_enter Try.func50,Try.ntmps50
 go_wp2_with (first | ((with_reducible refine gate_dst (N:=1) rfl ?_);refine box_event ?hg (N:=1) ?hd (cs:=#[.int .i64 b2,.int .i64 b3]) (t:=23) ?hr ?_;(case hd=>rfl);(case hg=>rfl);(case hr=>first | (go_simp;done) | (go_simp;rfl));intro b1 hg w3 hbox hb;have b6:=Aside0.mk (below_step (by repeat (first | (with_reducible first | exact HB.out | apply below_alloc | apply pw_below_drewN | apply below_drew1) | exact HB.out)) hb);have b7:=Aside0.mk (hbox);have d2:=Aside0.mk ((by rw [hg];exact (below_size (by repeat (first | (with_reducible first | exact HB.out | apply below_alloc | apply pw_below_drewN | apply below_drew1) | exact HB.out))):w.heap.size ≤ b1));have d3:=Aside0.mk ((by rw [hg];exact (below_size (by repeat (first | (with_reducible first | exact HB.out | apply below_alloc | apply pw_below_drewN | apply below_drew1) | exact HB.out))):w.heap.size ≤ b1));clear HB;have HB:=b6;have b0:=b7;have b8:=d2;have b5:=d3;clear b6 b7 d2 d3;clear hb hbox hg;have b9:w3.cell? ⟨b1,0,none⟩ = some (.int .i64 b2):=(blk_cell b0.out 0).trans rfl;have c0:w3.cell? ⟨b1,1,none⟩ = some (.int .i64 b3):=(blk_cell b0.out 1).trans rfl;have c1:=blk_frozen b0.out 0;have d0:=blk_frozen b0.out 1) | ((with_reducible refine gate_callee (f:=69) rfl ?_);refine goesL_ (some 4) rfl rfl Try.func69 (by kernel_rfl) rfl #[.agg #[.int .i64 b2,.int .i64 b3],.int .i64 (-1000000),.int .i64 1000000,.int .i64 20] rfl (by (try simp only [List.map_toArray,List.map_cons,List.map_nil]);first | done | rfl | (simp only [List.length_drop,List.length_take];rfl)) ?_;(with_reducible refine (numnahref07_Within.calls k b2 b3 (-1000000) 1000000 20 b4 _ A2.out).mono ?_);rintro e w5 ⟨rfl,hb⟩;refine ⟨_,rfl,?_⟩;have b6:=Aside0.mk (blk_below (g:=b1) (o:=.cells #[.int .i64 b2,.int .i64 b3] 23 (0,0)) (by (with_reducible repeat (first | refine blk_drewN ?_ _ | refine blk_drew ?_ | refine blk_alloc ?_ _));exact b0.out) hb);have b7:=Aside0.mk (below_step (by repeat (first | (with_reducible first | exact HB.out | apply below_alloc | apply pw_below_drewN | apply below_drew1 | refine below_set ?_ b5.out) | exact HB.out)) hb);clear b0;clear HB;have b0:=b6;have HB:=b7;clear b6 b7;(try clear hb)))
 go_ret
 exact ⟨by first | rfl | (simp [errW_none,errW_some] <;> rfl) | (simp [*,errW_none,errW_some] <;> rfl),by repeat (first | (with_reducible first | exact HB.out | apply below_alloc | apply pw_below_drewN | apply below_drew1 | refine below_set ?_ b5.out) | exact HB.out)⟩
def shares_Compare.f (k:Nat) (b4:Int) (b5:Int) (b6:Int) (b7:Int):Option (Int × Int):=(shares_areShares.f k (([(⟨b4,b5⟩:S23),(⟨b6,b7⟩:S23)]:List (S23)))).bind fun d2=>(if d2 = true then ((shares_compare.f k b4 b5 b6 b7).bind fun c1=>(some (c1,0))) else (some (0,2)))
theorem shares_Compare.mono:∀ a0 a1 a2 a3 k,LeO (shares_Compare.f k a0 a1 a2 a3) (shares_Compare.f (k + 1) a0 a1 a2 a3):=by
 intro a0 a1 a2 a3 k
 unfold shares_Compare.f
 repeat' first
   | (with_reducible exact shares_areShares.mono _ _)
   | (with_reducible exact shares_compare.mono _ _ _ _ _)
   | (with_reducible exact LeO.refl _)
   | (with_reducible exact LeO.none _)
   | (with_reducible refine LeO.ite ?_ ?_)
   | (with_reducible refine LeO.bind ?_ (fun _=>?_))
   | exact shares_areShares.mono _ _
   | exact shares_compare.mono _ _ _ _ _
   | exact LeO.none _
   | refine LeO.ite ?_ ?_
   | refine LeO.bind ?_ (fun _=>?_)
theorem shares_Compare.calls (k:Nat) (b4:Int) (b5:Int) (b6:Int) (b7:Int) (r1:Int) (r2:Int) (w:World) (h:shares_Compare.f k b4 b5 b6 b7 = some (r1,r2)) :
  Calls Try.prog 51 #[.agg #[.int .i64 b4,.int .i64 b5],.agg #[.int .i64 b6,.int .i64 b7]] w fun e w'=>e = .returned (.tuple #[.int .i64 r1,.int .i64 r2]) ∧ Below w.heap.size w w':=by
 have m6:=Try.underlying23
 have HB:=Aside0.mk (Below.refl w.heap.size w)
 have H:((shares_areShares.f k (([(⟨b4,b5⟩:S23),(⟨b6,b7⟩:S23)]:List (S23)))).bind fun d2=>(if d2 = true then ((shares_compare.f k b4 b5 b6 b7).bind fun c1=>(some (c1,0))) else (some (0,2)))) = some (r1,r2):=h
 clear h
 obtain ⟨d9,d7⟩:∃ y_:List (S23),y_ = (([(⟨b4,b5⟩:S23),(⟨b6,b7⟩:S23)]:List (S23))):=⟨_,rfl⟩
 replace H:((shares_areShares.f k d9).bind fun d2=>(if d2 = true then ((shares_compare.f k b4 b5 b6 b7).bind fun c1=>(some (c1,0))) else (some (0,2)))) = some (r1,r2):=by first | (rw [d7];with_reducible exact H) | (have j5:=(Option.bind_some _ _).symm.trans H;rw [d7];with_reducible exact j5) | (have j5:=(Option.bind_some _ _).symm.trans H;with_reducible exact j5) | with_reducible exact H | (rw [d7];exact H) | exact H
 have d8:=Aside0.mk d7
 clear d7
 replace H:=Option.bind_eq_some_iff.mp H
 obtain ⟨d2,m2,H⟩:=H
 replace H:(if d2 = true then ((shares_compare.f k b4 b5 b6 b7).bind fun c1=>(some (c1,0))) else (some (0,2))) = some (r1,r2):=H
 have A3:=Aside0.mk m2
 clear m2
 by_cases c4:d2 = true
 case neg =>
  replace c4:=Bool.eq_false_iff.mpr c4
  subst c4
  have H1:(some (0,2)) = some (r1,r2):=by rw [if_neg (show ¬ (false = true) by decide)] at H;exact H
  clear H
  have H:=H1
  clear H1
  simp only [Option.some.injEq,Prod.mk.injEq] at H
  obtain ⟨rfl,rfl⟩:=H
  go_enter Try.func51,Try.ntmps51
  go_wp2_with (first | ((with_reducible refine gate_dst (N:=2) rfl ?_);refine box_event ?hg (N:=2) ?hd (cs:=#[.int .i64 b4,.int .i64 b5]) (t:=23) ?hr ?_;(case hd=>rfl);(case hg=>rfl);(case hr=>first | (go_simp;done) | (go_simp;rfl));intro b2 hg m9 hbox hb;have d3:=Aside0.mk (below_step (by repeat (first | (with_reducible first | exact HB.out | apply below_alloc | apply pw_below_drewN | apply below_drew1) | exact HB.out)) hb);have d4:=Aside0.mk (hbox);have d5:=Aside0.mk ((by rw [hg];exact (below_size (by repeat (first | (with_reducible first | exact HB.out | apply below_alloc | apply pw_below_drewN | apply below_drew1) | exact HB.out))):w.heap.size ≤ b2));have d6:=Aside0.mk ((by rw [hg];exact (below_size (by repeat (first | (with_reducible first | exact HB.out | apply below_alloc | apply pw_below_drewN | apply below_drew1) | exact HB.out))):w.heap.size ≤ b2));clear HB;have HB:=d3;have b0:=d4;have e2:=d5;have b8:=d6;clear d3 d4 d5 d6;clear hb hbox hg) | ((with_reducible refine gate_dst (N:=3) rfl ?_);refine box_event ?hg (N:=3) ?hd (cs:=#[.int .i64 b6,.int .i64 b7]) (t:=23) ?hr ?_;(case hd=>rfl);(case hg=>rfl);(case hr=>first | (go_simp;done) | (go_simp;rfl));intro b3 hg e8 hbox hb;have d3:=Aside0.mk (blk_below (g:=b2) (o:=.cells #[.int .i64 b4,.int .i64 b5] 23 (0,0)) (by (with_reducible repeat (first | refine blk_drewN ?_ _ | refine blk_drew ?_ | refine blk_alloc ?_ _));exact b0.out) hb);have d4:=Aside0.mk (below_step (by repeat (first | (with_reducible first | exact HB.out | apply below_alloc | apply pw_below_drewN | apply below_drew1 | refine below_set ?_ b8.out) | exact HB.out)) hb);have d5:=Aside0.mk (hbox);have d6:=Aside0.mk ((by rw [hg];exact (below_size (by repeat (first | (with_reducible first | exact HB.out | apply below_alloc | apply pw_below_drewN | apply below_drew1 | refine below_set ?_ b8.out) | exact HB.out))):w.heap.size ≤ b3));have e4:=Aside0.mk ((by rw [hg];exact (below_size (by repeat (first | (with_reducible first | exact HB.out | apply below_alloc | apply pw_below_drewN | apply below_drew1 | refine below_set ?_ b8.out) | exact HB.out))):w.heap.size ≤ b3));have e5:=Aside0.mk ((by rw [hg];exact Nat.ne_of_lt (blk_lt (g:=b2) (o:=.cells #[.int .i64 b4,.int .i64 b5] 23 (0,0)) (by (with_reducible repeat (first | refine blk_drewN ?_ _ | refine blk_drew ?_ | refine blk_alloc ?_ _));exact b0.out)):b2 ≠ b3));have e6:=Aside0.mk ((by rw [hg];exact Nat.ne_of_gt (blk_lt (g:=b2) (o:=.cells #[.int .i64 b4,.int .i64 b5] 23 (0,0)) (by (with_reducible repeat (first | refine blk_drewN ?_ _ | refine blk_drew ?_ | refine blk_alloc ?_ _));exact b0.out)):b3 ≠ b2));clear b0;clear HB;have b0:=d3;have HB:=d4;have b1:=d5;have e3:=d6;have c0:=e4;have d0:=e5;have d1:=e6;clear d3 d4 d5 d6 e4 e5 e6;clear hb hbox hg;have m3:=d0.out;have m4:=d1.out;have e9:e8.cell? ⟨b2,0,none⟩ = some (.int .i64 b4):=(blk_cell b0.out 0).trans rfl;have h0:e8.cell? ⟨b2,1,none⟩ = some (.int .i64 b5):=(blk_cell b0.out 1).trans rfl;have h1:=blk_frozen b0.out 0;have h2:=blk_frozen b0.out 1;have h3:e8.cell? ⟨b3,0,none⟩ = some (.int .i64 b6):=(blk_cell b1.out 0).trans rfl;have h4:e8.cell? ⟨b3,1,none⟩ = some (.int .i64 b7):=(blk_cell b1.out 1).trans rfl;have h5:=blk_frozen b1.out 0;have h6:=blk_frozen b1.out 1) | ((with_reducible refine gate_dst (N:=8) rfl ?_);refine Kd.R_lit k23 _ 23 ?hg (N:=8) ?hd (xs:=([(⟨b4,b5⟩:S23),(⟨b6,b7⟩:S23)]:List (S23))) (inner:=[.int .i64 b4,.int .i64 b5,.int .i64 b6,.int .i64 b7]) (ok:=fun _=>True) (okp:=fun _=>True) ?hr ?hp (fun _ hk=>hk) trivial (Below.refl _ _) (Nat.le_refl _) (by simp) ?_;(case hd=>rfl);(case hg=>rfl);(case hr=>first | (go_simp;done) | (go_simp;rfl));(case hp=>exact (Reps.c2 (show Kd.M k23 _ _ _ (⟨b4,b5⟩:S23) [.int .i64 b4,.int .i64 b5] from (k23_mkM _ _ _ (⟨b4,b5⟩:S23) )) (Reps.c2 (show Kd.M k23 _ _ _ (⟨b6,b7⟩:S23) [.int .i64 b6,.int .i64 b7] from (k23_mkM _ _ _ (⟨b6,b7⟩:S23) )) (Reps.none _ _))));intro e7 n0 e0 hb hg_ hnew_;clear hg_ hnew_;(first | rw [← d8.out] at e0 | (simp only [Int.reduceToNat] at e0;rw [← d8.out] at e0));have d3:=Aside0.mk (Kd.R_lower (Kd.R_newB (Kd.R_newB e0 (g:=b2) (o:=.cells #[.int .i64 b4,.int .i64 b5] 23 (0,0)) (by (with_reducible repeat (first | refine blk_drewN ?_ _ | refine blk_drew ?_ | refine blk_alloc ?_ _));exact b0.out)) (g:=b3) (o:=.cells #[.int .i64 b6,.int .i64 b7] 23 (0,0)) (by (with_reducible repeat (first | refine blk_drewN ?_ _ | refine blk_drew ?_ | refine blk_alloc ?_ _));exact b1.out)) (below_size (by repeat (first | (with_reducible first | exact HB.out | apply below_alloc | apply pw_below_drewN | apply below_drew1 | refine below_set ?_ b8.out | refine below_set ?_ c0.out) | exact HB.out))));have d4:=Aside0.mk (blk_below (g:=b2) (o:=.cells #[.int .i64 b4,.int .i64 b5] 23 (0,0)) (by (with_reducible repeat (first | refine blk_drewN ?_ _ | refine blk_drew ?_ | refine blk_alloc ?_ _));exact b0.out) hb);have d5:=Aside0.mk (blk_below (g:=b3) (o:=.cells #[.int .i64 b6,.int .i64 b7] 23 (0,0)) (by (with_reducible repeat (first | refine blk_drewN ?_ _ | refine blk_drew ?_ | refine blk_alloc ?_ _));exact b1.out) hb);have d6:=Aside0.mk (below_step (by repeat (first | (with_reducible first | exact HB.out | apply below_alloc | apply pw_below_drewN | apply below_drew1 | refine below_set ?_ b8.out | refine below_set ?_ c0.out) | exact HB.out)) hb);clear b0;clear b1;clear HB;have b9:=d3;have b0:=d4;have b1:=d5;have HB:=d6;clear d3 d4 d5 d6;clear hb e0;obtain ⟨j7,j8,j9⟩:=Kd.R_slice b9.out;subst j9) | ((with_reducible refine gate_callee (f:=82) rfl ?_);refine goesL_ (some 9) rfl rfl Try.func82 (by kernel_rfl) rfl #[.slice j7 d9.length j8] rfl (by (try simp only [List.map_toArray,List.map_cons,List.map_nil]);first | done | rfl | (simp only [List.length_drop,List.length_take];rfl)) ?_;(with_reducible refine (shares_areShares.calls k _ _ d9 false _ ?side1 ?side2 A3.out).mono ?_);(case side1=>repeat (first | exact (Kd.R_reads' b9.out).2.2 | (with_reducible refine Kd.C_alloc ?_ _) | (with_reducible refine Kd.C_drewN ?_ _) | (with_reducible refine Kd.C_drew ?_)));(case side2=>exact (Kd.R_reads' b9.out).2.1);rintro e n1 ⟨rfl,hb⟩;refine ⟨_,rfl,?_⟩;have d3:=Aside0.mk (Kd.R_below (by (with_reducible repeat (first | apply Kd.R_alloc | apply Kd.R_drewN | apply Kd.R_drew));exact b9.out) hb);have d4:=Aside0.mk (blk_below (g:=b2) (o:=.cells #[.int .i64 b4,.int .i64 b5] 23 (0,0)) (by (with_reducible repeat (first | refine blk_drewN ?_ _ | refine blk_drew ?_ | refine blk_alloc ?_ _));exact b0.out) hb);have d5:=Aside0.mk (blk_below (g:=b3) (o:=.cells #[.int .i64 b6,.int .i64 b7] 23 (0,0)) (by (with_reducible repeat (first | refine blk_drewN ?_ _ | refine blk_drew ?_ | refine blk_alloc ?_ _));exact b1.out) hb);have d6:=Aside0.mk (below_step (by repeat (first | (with_reducible first | exact HB.out | apply below_alloc | apply pw_below_drewN | apply below_drew1 | refine below_set ?_ b8.out | refine below_set ?_ c0.out) | exact HB.out)) hb);clear b9;clear b0;clear b1;clear HB;have b9:=d3;have b0:=d4;have b1:=d5;have HB:=d6;clear d3 d4 d5 d6;(try clear hb)))
  go_ret2
  exact ⟨by first | rfl | (simp [errW_none,errW_some] <;> rfl) | (simp [*,errW_none,errW_some] <;> rfl),by repeat (first | (with_reducible first | exact HB.out | apply below_alloc | apply pw_below_drewN | apply below_drew1 | refine below_set ?_ b8.out | refine below_set ?_ c0.out) | exact HB.out)⟩
 subst c4
 have H1:((shares_compare.f k b4 b5 b6 b7).bind fun c1=>(some (c1,0))) = some (r1,r2):=by rw [if_pos rfl] at H;exact H
 clear H
 have H:=H1
 clear H1
 replace H:=Option.bind_eq_some_iff.mp H
 obtain ⟨c1,m5,H⟩:=H
 replace H:(some (c1,0)) = some (r1,r2):=H
 have A5:=Aside0.mk m5
 clear m5
 simp only [Option.some.injEq,Prod.mk.injEq] at H
 obtain ⟨rfl,rfl⟩:=H
 go_enter Try.func51,Try.ntmps51
 go_wp2_with (first | ((with_reducible refine gate_dst (N:=2) rfl ?_);refine box_event ?hg (N:=2) ?hd (cs:=#[.int .i64 b4,.int .i64 b5]) (t:=23) ?hr ?_;(case hd=>rfl);(case hg=>rfl);(case hr=>first | (go_simp;done) | (go_simp;rfl));intro b2 hg w6 hbox hb;have d3:=Aside0.mk (below_step (by repeat (first | (with_reducible first | exact HB.out | apply below_alloc | apply pw_below_drewN | apply below_drew1) | exact HB.out)) hb);have d4:=Aside0.mk (hbox);have d5:=Aside0.mk ((by rw [hg];exact (below_size (by repeat (first | (with_reducible first | exact HB.out | apply below_alloc | apply pw_below_drewN | apply below_drew1) | exact HB.out))):w.heap.size ≤ b2));have d6:=Aside0.mk ((by rw [hg];exact (below_size (by repeat (first | (with_reducible first | exact HB.out | apply below_alloc | apply pw_below_drewN | apply below_drew1) | exact HB.out))):w.heap.size ≤ b2));clear HB;have HB:=d3;have b0:=d4;have e2:=d5;have b8:=d6;clear d3 d4 d5 d6;clear hb hbox hg) | ((with_reducible refine gate_dst (N:=3) rfl ?_);refine box_event ?hg (N:=3) ?hd (cs:=#[.int .i64 b6,.int .i64 b7]) (t:=23) ?hr ?_;(case hd=>rfl);(case hg=>rfl);(case hr=>first | (go_simp;done) | (go_simp;rfl));intro b3 hg w7 hbox hb;have d3:=Aside0.mk (blk_below (g:=b2) (o:=.cells #[.int .i64 b4,.int .i64 b5] 23 (0,0)) (by (with_reducible repeat (first | refine blk_drewN ?_ _ | refine blk_drew ?_ | refine blk_alloc ?_ _));exact b0.out) hb);have d4:=Aside0.mk (below_step (by repeat (first | (with_reducible first | exact HB.out | apply below_alloc | apply pw_below_drewN | apply below_drew1 | refine below_set ?_ b8.out) | exact HB.out)) hb);have d5:=Aside0.mk (hbox);have d6:=Aside0.mk ((by rw [hg];exact (below_size (by repeat (first | (with_reducible first | exact HB.out | apply below_alloc | apply pw_below_drewN | apply below_drew1 | refine below_set ?_ b8.out) | exact HB.out))):w.heap.size ≤ b3));have e4:=Aside0.mk ((by rw [hg];exact (below_size (by repeat (first | (with_reducible first | exact HB.out | apply below_alloc | apply pw_below_drewN | apply below_drew1 | refine below_set ?_ b8.out) | exact HB.out))):w.heap.size ≤ b3));have e5:=Aside0.mk ((by rw [hg];exact Nat.ne_of_lt (blk_lt (g:=b2) (o:=.cells #[.int .i64 b4,.int .i64 b5] 23 (0,0)) (by (with_reducible repeat (first | refine blk_drewN ?_ _ | refine blk_drew ?_ | refine blk_alloc ?_ _));exact b0.out)):b2 ≠ b3));have e6:=Aside0.mk ((by rw [hg];exact Nat.ne_of_gt (blk_lt (g:=b2) (o:=.cells #[.int .i64 b4,.int .i64 b5] 23 (0,0)) (by (with_reducible repeat (first | refine blk_drewN ?_ _ | refine blk_drew ?_ | refine blk_alloc ?_ _));exact b0.out)):b3 ≠ b2));clear b0;clear HB;have b0:=d3;have HB:=d4;have b1:=d5;have e3:=d6;have c0:=e4;have d0:=e5;have d1:=e6;clear d3 d4 d5 d6 e4 e5 e6;clear hb hbox hg;have m7:=d0.out;have m8:=d1.out;have l5:w7.cell? ⟨b2,0,none⟩ = some (.int .i64 b4):=(blk_cell b0.out 0).trans rfl;have l6:w7.cell? ⟨b2,1,none⟩ = some (.int .i64 b5):=(blk_cell b0.out 1).trans rfl;have l7:=blk_frozen b0.out 0;have l8:=blk_frozen b0.out 1;have h7:w7.cell? ⟨b3,0,none⟩ = some (.int .i64 b6):=(blk_cell b1.out 0).trans rfl;have h8:w7.cell? ⟨b3,1,none⟩ = some (.int .i64 b7):=(blk_cell b1.out 1).trans rfl;have h9:=blk_frozen b1.out 0;have i0:=blk_frozen b1.out 1) | ((with_reducible refine gate_dst (N:=8) rfl ?_);refine Kd.R_lit k23 _ 23 ?hg (N:=8) ?hd (xs:=([(⟨b4,b5⟩:S23),(⟨b6,b7⟩:S23)]:List (S23))) (inner:=[.int .i64 b4,.int .i64 b5,.int .i64 b6,.int .i64 b7]) (ok:=fun _=>True) (okp:=fun _=>True) ?hr ?hp (fun _ hk=>hk) trivial (Below.refl _ _) (Nat.le_refl _) (by simp) ?_;(case hd=>rfl);(case hg=>rfl);(case hr=>first | (go_simp;done) | (go_simp;rfl));(case hp=>exact (Reps.c2 (show Kd.M k23 _ _ _ (⟨b4,b5⟩:S23) [.int .i64 b4,.int .i64 b5] from (k23_mkM _ _ _ (⟨b4,b5⟩:S23) )) (Reps.c2 (show Kd.M k23 _ _ _ (⟨b6,b7⟩:S23) [.int .i64 b6,.int .i64 b7] from (k23_mkM _ _ _ (⟨b6,b7⟩:S23) )) (Reps.none _ _))));intro e7 n2 e1 hb hg_ hnew_;clear hg_ hnew_;(first | rw [← d8.out] at e1 | (simp only [Int.reduceToNat] at e1;rw [← d8.out] at e1));have d3:=Aside0.mk (Kd.R_lower (Kd.R_newB (Kd.R_newB e1 (g:=b2) (o:=.cells #[.int .i64 b4,.int .i64 b5] 23 (0,0)) (by (with_reducible repeat (first | refine blk_drewN ?_ _ | refine blk_drew ?_ | refine blk_alloc ?_ _));exact b0.out)) (g:=b3) (o:=.cells #[.int .i64 b6,.int .i64 b7] 23 (0,0)) (by (with_reducible repeat (first | refine blk_drewN ?_ _ | refine blk_drew ?_ | refine blk_alloc ?_ _));exact b1.out)) (below_size (by repeat (first | (with_reducible first | exact HB.out | apply below_alloc | apply pw_below_drewN | apply below_drew1 | refine below_set ?_ b8.out | refine below_set ?_ c0.out) | exact HB.out))));have d4:=Aside0.mk (blk_below (g:=b2) (o:=.cells #[.int .i64 b4,.int .i64 b5] 23 (0,0)) (by (with_reducible repeat (first | refine blk_drewN ?_ _ | refine blk_drew ?_ | refine blk_alloc ?_ _));exact b0.out) hb);have d5:=Aside0.mk (blk_below (g:=b3) (o:=.cells #[.int .i64 b6,.int .i64 b7] 23 (0,0)) (by (with_reducible repeat (first | refine blk_drewN ?_ _ | refine blk_drew ?_ | refine blk_alloc ?_ _));exact b1.out) hb);have d6:=Aside0.mk (below_step (by repeat (first | (with_reducible first | exact HB.out | apply below_alloc | apply pw_below_drewN | apply below_drew1 | refine below_set ?_ b8.out | refine below_set ?_ c0.out) | exact HB.out)) hb);clear b0;clear b1;clear HB;have b9:=d3;have b0:=d4;have b1:=d5;have HB:=d6;clear d3 d4 d5 d6;clear hb e1;obtain ⟨l9,m0,m1⟩:=Kd.R_slice b9.out;subst m1) | ((with_reducible refine gate_callee (f:=82) rfl ?_);refine goesL_ (some 9) rfl rfl Try.func82 (by kernel_rfl) rfl #[.slice l9 d9.length m0] rfl (by (try simp only [List.map_toArray,List.map_cons,List.map_nil]);first | done | rfl | (simp only [List.length_drop,List.length_take];rfl)) ?_;(with_reducible refine (shares_areShares.calls k _ _ d9 true _ ?side1 ?side2 A3.out).mono ?_);(case side1=>repeat (first | exact (Kd.R_reads' b9.out).2.2 | (with_reducible refine Kd.C_alloc ?_ _) | (with_reducible refine Kd.C_drewN ?_ _) | (with_reducible refine Kd.C_drew ?_)));(case side2=>exact (Kd.R_reads' b9.out).2.1);rintro e i1 ⟨rfl,hb⟩;refine ⟨_,rfl,?_⟩;have d3:=Aside0.mk (Kd.R_below (by (with_reducible repeat (first | apply Kd.R_alloc | apply Kd.R_drewN | apply Kd.R_drew));exact b9.out) hb);have d4:=Aside0.mk (blk_below (g:=b2) (o:=.cells #[.int .i64 b4,.int .i64 b5] 23 (0,0)) (by (with_reducible repeat (first | refine blk_drewN ?_ _ | refine blk_drew ?_ | refine blk_alloc ?_ _));exact b0.out) hb);have d5:=Aside0.mk (blk_below (g:=b3) (o:=.cells #[.int .i64 b6,.int .i64 b7] 23 (0,0)) (by (with_reducible repeat (first | refine blk_drewN ?_ _ | refine blk_drew ?_ | refine blk_alloc ?_ _));exact b1.out) hb);have d6:=Aside0.mk (below_step (by repeat (first | (with_reducible first | exact HB.out | apply below_alloc | apply pw_below_drewN | apply below_drew1 | refine below_set ?_ b8.out | refine below_set ?_ c0.out) | exact HB.out)) hb);clear b9;clear b0;clear b1;clear HB;have b9:=d3;have b0:=d4;have b1:=d5;have HB:=d6;clear d3 d4 d5 d6;(try clear hb);have i2:i1.cell? ⟨b2,0,none⟩ = some (.int .i64 b4):=(blk_cell b0.out 0).trans rfl;have i3:i1.cell? ⟨b2,1,none⟩ = some (.int .i64 b5):=(blk_cell b0.out 1).trans rfl;have i4:=blk_frozen b0.out 0;have i5:=blk_frozen b0.out 1;have i6:i1.cell? ⟨b3,0,none⟩ = some (.int .i64 b6):=(blk_cell b1.out 0).trans rfl;have i7:i1.cell? ⟨b3,1,none⟩ = some (.int .i64 b7):=(blk_cell b1.out 1).trans rfl;have i8:=blk_frozen b1.out 0;have i9:=blk_frozen b1.out 1) | ((with_reducible refine gate_callee (f:=85) rfl ?_);refine goesL_ (some 13) rfl rfl Try.func85 (by kernel_rfl) rfl #[.agg #[.int .i64 b4,.int .i64 b5],.agg #[.int .i64 b6,.int .i64 b7]] rfl (by (try simp only [List.map_toArray,List.map_cons,List.map_nil]);first | done | rfl | (simp only [List.length_drop,List.length_take];rfl)) ?_;(with_reducible refine (shares_compare.calls k b4 b5 b6 b7 c1 _ A5.out).mono ?_);rintro e n3 ⟨rfl,hb⟩;refine ⟨_,rfl,?_⟩;have d3:=Aside0.mk (Kd.R_below (by (with_reducible repeat (first | apply Kd.R_alloc | apply Kd.R_drewN | apply Kd.R_drew));exact b9.out) hb);have d4:=Aside0.mk (blk_below (g:=b2) (o:=.cells #[.int .i64 b4,.int .i64 b5] 23 (0,0)) (by (with_reducible repeat (first | refine blk_drewN ?_ _ | refine blk_drew ?_ | refine blk_alloc ?_ _));exact b0.out) hb);have d5:=Aside0.mk (blk_below (g:=b3) (o:=.cells #[.int .i64 b6,.int .i64 b7] 23 (0,0)) (by (with_reducible repeat (first | refine blk_drewN ?_ _ | refine blk_drew ?_ | refine blk_alloc ?_ _));exact b1.out) hb);have d6:=Aside0.mk (below_step (by repeat (first | (with_reducible first | exact HB.out | apply below_alloc | apply pw_below_drewN | apply below_drew1 | refine below_set ?_ b8.out | refine below_set ?_ c0.out) | exact HB.out)) hb);clear b9;clear b0;clear b1;clear HB;have b9:=d3;have b0:=d4;have b1:=d5;have HB:=d6;clear d3 d4 d5 d6;(try clear hb)))
 go_ret2
 exact ⟨by first | rfl | (simp [errW_none,errW_some] <;> rfl) | (simp [*,errW_none,errW_some] <;> rfl),by repeat (first | (with_reducible first | exact HB.out | apply below_alloc | apply pw_below_drewN | apply below_drew1 | refine below_set ?_ b8.out | refine below_set ?_ c0.out) | exact HB.out)⟩
end Go.Proofs.Ytjohcjfmlhihbaa.G
set_option linter.unusedSectionVars false
namespace Go.Proofs.Ytjohcjfmlhihbaa.P
open Go Go.RowKit Go.Proofs.Ytjohcjfmlhihbaa.G
open Go.Proofs.YtjohcjfmlhihbaaW.PrintWords Go.Proofs.YtjohcjfmlhihbaaW.PrintMore
def smallS (a:S23):Prop:=1 ≤ a.f1 ∧ a.f1 ≤ 20 ∧ -1000000 ≤ a.f0 ∧ a.f0 ≤ 1000000 ∧ Nat.gcd a.f0.natAbs a.f1.toNat = 1
instance (a:S23):Decidable (smallS a):=by unfold smallS;exact inferInstance
theorem small_q {a:S23} (h:smallS a):∃ q:Rat,a = encQ q ∧ Sm 1000000 20 q:=by
 obtain ⟨h1,h2,h3,h4,h5⟩:=h
 obtain ⟨q,q1,q2⟩:=is_valid (n:=a.f0) (d:=a.f1.toNat) (by omega) h5
 exact ⟨q,S23_ext q1.symm (by show a.f1 = (q.den:Int);omega),by omega,by omega⟩
theorem q_small {q:Rat} (h:Sm 1000000 20 q):smallS (encQ q):=by
 have h1:=h.num
 have h2:=h.den
 have hp:=den_pos q
 refine ⟨?_,?_,?_,?_,gcd_one q⟩
 ·show 1 ≤ (q.den:Int);omega
 ·show (q.den:Int) ≤ 20;omega
 ·show -1000000 ≤ q.num;omega
 ·show q.num ≤ 1000000;omega
theorem small_list:∀ {w:List S23},(∀ a ∈ w,smallS a) → ∃ x,w = encL x ∧ ∀ q ∈ x,Sm 1000000 20 q
 | [],_=>⟨[],rfl,fun q hq=>by cases hq⟩
 | a :: w,h=>by
  obtain ⟨x,rfl,hx⟩:=small_list (w:=w) fun b hb=>h b (List.mem_cons_of_mem _ hb)
  obtain ⟨q,rfl,hq⟩:=small_q (h a (by simp))
  exact ⟨q :: x,rfl,fun p hp=>by
   rcases List.mem_cons.1 hp with rfl | hp
   ·exact hq
   ·exact hx p hp⟩
theorem list_small {x:List Rat} (h:∀ q ∈ x,Sm 1000000 20 q):∀ a ∈ encL x,smallS a:=fun a ha=>by
 obtain ⟨q,hq,rfl⟩:=List.mem_map.1 ha
 exact q_small (h q hq)
theorem ev_sh1 {a:S23} (ha:inS a):Ev (fun k=>shares_areShares_1.f k a.f0 a.f1) (!decide (smallS a)):=by
 unfold shares_areShares_1.f
 simp only [within_eq,Option.bind_some]
 by_cases h1:1 ≤ a.f1 ∧ a.f1 ≤ 20
 ·refine Ev.congr (fun k=>if_pos (decide_eq_true h1)) ?_
  by_cases h2:-1000000 ≤ a.f0 ∧ a.f0 ≤ 1000000
  ·refine Ev.congr (fun k=>if_pos (decide_eq_true h2)) ?_
   obtain ⟨b,hb,_,hb2⟩:=ev_valid ha.1 h1.1
   refine Ev.bind hb ?_
   rw [hb2 (by omega)]
   have:(decide (Nat.gcd a.f0.natAbs a.f1.toNat = 1)) = decide (smallS a):=by
    rw [Bool.eq_iff_iff,decide_eq_true_iff,decide_eq_true_iff]
    exact ⟨fun k=>⟨h1.1,h1.2,h2.1,h2.2,k⟩,fun k=>k.2.2.2.2⟩
   rw [this]
   exact Ev.now _
  ·rw [decide_eq_false (fun k:smallS a=>h2 ⟨k.2.2.1,k.2.2.2.1⟩)]
   exact Ev.congr (fun k=>if_neg (by simpa using h2)) (Ev.now _)
 ·rw [decide_eq_false (fun k:smallS a=>h1 ⟨k.1,k.2.1⟩)]
  exact Ev.congr (fun k=>if_neg (by simpa using h1)) (Ev.now _)
theorem index_l0 {w:List S23} (hl:w.length ≤ 1000000) (hin:∀ a ∈ w,inS a):∀ (d i:Nat),i + d = w.length → (∀ a ∈ w.take i,smallS a) → ∃ r:Int,((0 ≤ r) ↔ ¬ ∀ a ∈ w,smallS a) ∧ Ev (fun k=>index111.l0 k w (w.length:Int) (i:Int)) r:=by
 intro d
 induction d with
 | zero =>
  intro i hi hok
  rw [List.take_of_length_le (by omega)] at hok
  refine ⟨-1,⟨fun e=>by omega,fun e=>absurd hok e⟩,Ev.step (f:=fun _=>some (-1)) (fun k=>?_) (Ev.now _)⟩
  rw [index111.l0,if_neg (by omega)]
 | succ d ih =>
  intro i hi hok
  have hil:i < w.length:=by omega
  have h1:=ev_sh1 (hin _ (List.getElem_mem hil))
  have start:∀ k,index111.l0 (k + 1) w (w.length:Int) (i:Int) = (shares_areShares_1.f k w[i].f0 w[i].f1).bind fun t=>if t = true then some (i:Int) else index111.l0 k w (w.length:Int) ((i + 1:Nat):Int):=by
   intro k
   rw [index111.l0,if_pos (by omega),if_pos (by omega),if_pos (by omega),rdT hil,wrap_succ (by omega)]
  by_cases hs:smallS w[i]
  ·obtain ⟨r,hr,hev⟩:=ih (i + 1) (by omega) (fun a ha=>by
    rw [List.take_succ_eq_append_getElem hil,List.mem_append,List.mem_singleton] at ha
    rcases ha with ha | rfl
    ·exact hok a ha
    ·exact hs)
   refine ⟨r,hr,Ev.step start (Ev.bind h1 ?_)⟩
   rw [decide_eq_true hs]
   simp only [Bool.not_true,Bool.false_eq_true,if_false]
   exact hev
  ·refine ⟨(i:Int),⟨fun _ hall=>hs (hall _ (List.getElem_mem hil)),fun _=>by omega⟩,Ev.step start (Ev.bind h1 ?_)⟩
   rw [decide_eq_false hs]
   simp only [Bool.not_false,if_true]
   exact Ev.now _
theorem ev_areShares {w:List S23} (hl:w.length ≤ 1000000) (hin:∀ a ∈ w,inS a):Ev (fun k=>shares_areShares.f k w) (decide (w.length ≤ 10 ∧ ∀ a ∈ w,smallS a)):=by
 unfold shares_areShares.f
 by_cases h:w.length ≤ 10
 ·refine Ev.congr (fun k=>if_pos (by omega)) ?_
  obtain ⟨r,hr,hev⟩:=index_l0 hl hin w.length 0 (by omega) (fun a ha=>by simp at ha)
  unfold contains111.f index111.f
  refine Ev.bind (Ev.bind hev (Ev.now _)) ?_
  have:(!decide (r ≥ 0)) = decide (w.length ≤ 10 ∧ ∀ a ∈ w,smallS a):=by
   rw [Bool.eq_iff_iff,Bool.not_eq_true',decide_eq_false_iff_not,decide_eq_true_iff]
   constructor
   ·intro hn;exact ⟨h,Classical.byContradiction fun hc=>hn (hr.2 hc)⟩
   ·intro hn hc;exact hr.1 hc hn.2
  rw [this]
  exact Ev.now _
 ·rw [decide_eq_false (fun k=>h k.1)]
  exact Ev.congr (fun k=>if_neg (by omega)) (Ev.now _)
theorem ev_rsmall {a:S23} (ha:inS a):Ev (fun k=>numnahref07_Small.f k a.f0 a.f1) (decide (smallS a)):=by
 unfold numnahref07_Small.f
 refine Ev.bind (ev_within_any ha (by omega)) ?_
 have:decide (1 ≤ a.f1 ∧ a.f1 ≤ 20 ∧ -1000000 ≤ a.f0 ∧ a.f0 ≤ 1000000 ∧ Nat.gcd a.f0.natAbs a.f1.toNat = 1) = decide (smallS a):=by
  rw [Bool.eq_iff_iff,decide_eq_true_iff,decide_eq_true_iff]
  exact Iff.rfl
 rw [this]
 exact Ev.now _
theorem abs_of {q:Rat} {A:Nat} (h:q.num.natAbs ≤ A):-(A:Rat) ≤ q ∧ q ≤ (A:Rat):=by
 have hp:=den_pos q
 have h2:A ≤ A * q.den:=Nat.le_mul_of_pos_right _ hp
 have e:((A * q.den:Nat):Int) = (A:Int) * (q.den:Int):=by push_cast;rfl
 constructor
 ·rw [Rat.le_iff]
  simp only [Rat.neg_num,Rat.num_natCast,Rat.neg_den,Rat.den_natCast]
  rw [Int.neg_mul]
  omega
 ·rw [Rat.le_iff]
  simp only [Rat.num_natCast,Rat.den_natCast]
  omega
theorem part_smZ {x:List Rat} (hl:x.length ≤ 11) (hx:∀ q ∈ x,Sm 1000000 20 q):Sm 2560718160000000 232792560 (tot x):=by
 have hd:(tot x).den ≤ lcm20:=Nat.le_of_dvd (by decide) (tot_den (by decide) fun q hq=>dvd_lcm (den_pos q) (hx q hq).den)
 have a1:=tot_le (f:=fun c=>c) (g:=fun _=>((1000000:Nat):Rat)) (l:=x) (fun c hc=>(abs_of (hx c hc).num).2)
 have a2:=tot_le (f:=fun _=>-((1000000:Nat):Rat)) (g:=fun c=>c) (l:=x) (fun c hc=>(abs_of (hx c hc).num).1)
 rw [List.map_id',tot_const] at a1 a2
 have a3:((x.length * 1000000:Nat):Rat) ≤ ((11000000:Nat):Rat):=Rat.natCast_le_natCast.2 (by omega)
 push_cast at a1 a2 a3
 have b1:tot x ≤ ((11000000:Nat):Rat):=by push_cast;grind
 have b2:-((11000000:Nat):Rat) ≤ tot x:=by push_cast;grind
 have:=num_bound b2 b1
 have h3:11000000 * (tot x).den ≤ 11000000 * lcm20:=Nat.mul_le_mul_left _ hd
 exact ⟨Nat.le_trans this (Nat.le_trans h3 (by decide)),hd⟩
theorem sumZ_l0 {x:List Rat} (hl:x.length ≤ 11) (hx:∀ q ∈ x,Sm 1000000 20 q):∀ (d i:Nat),i + d = x.length → Ev (fun k=>shares_sum.l0 k (encL x) (x.length:Int) (i:Int) (tot (x.take i)).num ((tot (x.take i)).den:Int)) ((tot x).num,((tot x).den:Int)):=by
 intro d
 induction d with
 | zero =>
  intro i hi
  refine Ev.step (f:=fun _=>some ((tot x).num,((tot x).den:Int))) (fun k=>?_) (Ev.now _)
  rw [shares_sum.l0,if_neg (by omega),List.take_of_length_le (by omega)]
 | succ d ih =>
  intro i hi
  have hil:i < x.length:=by omega
  have s1:=part_smZ (x:=x.take i) (by rw [List.length_take];omega) (fun q hq=>hx q (List.mem_of_mem_take hq))
  have s2:=hx _ (List.getElem_mem hil)
  have e:tot (x.take i) + x[i] = tot (x.take (i + 1)):=by rw [List.take_succ_eq_append_getElem hil,tot_append,tot_cons,tot_nil];grind
  have e1:=ev_add (s1.fits s2 (by decide) (by decide))
  rw [e] at e1
  obtain ⟨K1,e1⟩:=e1
  obtain ⟨K2,e2⟩:=ih (i + 1) (by omega)
  refine ⟨K1 + K2 + 1,fun k hk=>?_⟩
  obtain ⟨m,rfl⟩:∃ m,k = m + 1:=⟨k - 1,by omega⟩
  have f1:=e1 m (by omega)
  have f2:=e2 m (by omega)
  show shares_sum.l0 (m + 1) _ _ _ _ _ = _
  rw [shares_sum.l0,encL_length,if_pos (by omega),if_pos (by omega),if_pos (by omega),rdE hil]
  simp only [encQ,f1,Option.bind_some]
  rw [wrap_succ (by omega)]
  exact f2
section
variable {x:List Rat} (hl:x.length ≤ 10) (hx:∀ q ∈ x,Sm 1000000 20 q)
include hl hx
theorem shares_yes:Ev (fun k=>shares_areShares.f k (encL x)) true:=by
 have:=ev_areShares (w:=encL x) (by rw [encL_length];omega) (fun a ha=>by
  obtain ⟨q,hq,rfl⟩:=List.mem_map.1 ha
  have s1:=(hx q hq).num
  have s2:=(hx q hq).den
  exact ⟨⟨by show _ ≤ q.num;omega,by show q.num ≤ _;omega⟩,⟨by show _ ≤ (q.den:Int);omega,by show (q.den:Int) ≤ _;omega⟩⟩)
 rw [decide_eq_true (⟨by rw [encL_length];exact hl,list_small hx⟩:_ ∧ _)] at this
 exact this
theorem ev_Sum:Ev (fun k=>shares_Sum.f k (encL x)) ((tot x).num,((tot x).den:Int),0):=by
 unfold shares_Sum.f
 refine Ev.bind (shares_yes hl hx) ?_
 simp only [if_true]
 unfold shares_sum.f
 simp only [shares_whole.f,Option.bind_some,encL_length]
 exact Ev.bind (sumZ_l0 (by omega) hx x.length 0 (by omega)) (Ev.now _)
theorem sorted_l0 (τ:List Nat) (hτ:∀ p ∈ τ,p < x.length) (hτl:τ.length = x.length):∀ (d i:Nat),i + d = τ.length → Ev (fun k=>shares_Sorted.l0 k (encL x) (encL ((τ.take i).map fun p=>x.getD p 0)) (nI τ) (τ.length:Int) (i:Int)) (encL (τ.map fun p=>x.getD p 0),0):=by
 intro d
 induction d with
 | zero =>
  intro i hi
  refine Ev.step (f:=fun _=>some (encL (τ.map fun p=>x.getD p 0),0)) (fun k=>?_) (Ev.now _)
  rw [shares_Sorted.l0,if_neg (by omega),List.take_of_length_le (by omega)]
 | succ d ih =>
  intro i hi
  have hil:i < τ.length:=by omega
  have hp:=hτ _ (List.getElem_mem hil)
  have hlen:(encL ((τ.take i).map fun p=>x.getD p 0)).length ≤ 10:=by rw [encL_length,List.length_map,List.length_take];omega
  refine Ev.step (fun k=>?_) (ih (i + 1) (by omega))
  rw [shares_Sorted.l0,nI_length,encL_length,if_pos (by omega),if_pos (by omega),if_pos (by omega),rdN hil,if_pos (by omega),if_pos (by omega),rdE hp,if_pos (by omega),wrap_succ (by omega)]
  congr 1
  rw [List.take_succ_eq_append_getElem hil,List.map_append]
  unfold encL
  rw [List.map_append]
  simp [hp,encQ]
theorem ev_Sorted:∃ y,y.Perm x ∧ y.Pairwise (· ≤ ·) ∧ Ev (fun k=>shares_Sorted.f k (encL x)) (encL y,0):=by
 obtain ⟨τ,hp,hs,hb⟩:=ev_by (q:=x) (fun a ha b hb=>(hx a ha).fits (hx b hb) (by decide) (by decide)) (by omega)
 have hlt:∀ p ∈ τ,p < x.length:=fun p hpm=>List.mem_range.1 (hp.mem_iff.1 hpm)
 have hτl:τ.length = x.length:=by rw [hp.length_eq,List.length_range]
 have hmap:(List.range x.length).map (fun i=>x.getD i 0) = x:=by
  refine List.ext_getElem (by simp) fun i hi1 hi2=>?_
  rw [List.getElem_map,List.getElem_range]
  simp [hi2]
 have hpm:(τ.map fun i=>x.getD i 0).Perm x:=by
  have:=hp.map (fun i=>x.getD i 0)
  rw [hmap] at this
  exact this
 refine ⟨_,hpm,hs,?_⟩
 unfold shares_Sorted.f
 refine Ev.bind (shares_yes hl hx) ?_
 simp only [if_true]
 refine Ev.bind hb ?_
 rw [nI_length]
 exact sorted_l0 hl hx τ hlt hτl τ.length 0 (by omega)
end
theorem ev_Compare {p q:Rat} (hp:Sm 1000000 20 p) (hq:Sm 1000000 20 q):Ev (fun k=>shares_Compare.f k p.num (p.den:Int) q.num (q.den:Int)) (cmpR p q,0):=by
 unfold shares_Compare.f
 have hy:=shares_yes (x:=[p,q]) (by simp) (fun z hz=>by
  rcases List.mem_cons.1 hz with rfl | hz
  ·exact hp
  ·rw [List.mem_singleton.1 hz];exact hq)
 have hy':Ev (fun k=>shares_areShares.f k [⟨p.num,(p.den:Int)⟩,⟨q.num,(q.den:Int)⟩]) true:=hy
 refine Ev.bind hy' ?_
 simp only [if_true]
 exact Ev.bind (ev_compare (hp.fits hq (by decide) (by decide))) (Ev.now _)
theorem shares_no {w:List S23} (hl:w.length ≤ 1000000) (hin:∀ a ∈ w,inS a) (hno:¬ (w.length ≤ 10 ∧ ∀ a ∈ w,smallS a)):Ev (fun k=>shares_areShares.f k w) false:=by
 have:=ev_areShares hl hin
 rw [decide_eq_false hno] at this
 exact this
end Go.Proofs.Ytjohcjfmlhihbaa.P
namespace Go.Proofs.Ytjohcjfmlhihbaa.G
open Go.RowKit Go.Proofs.YtjohcjfmlhihbaaW.PrintWords Go.Proofs.YtjohcjfmlhihbaaW.PrintLast Go.Proofs.YtjohcjfmlhihbaaW.PrintMore
set_option maxHeartbeats 8000000
set_option maxRecDepth 100000
attribute [local go_sem] cond_true cond_false fld23_0 fld23_1 fld45_0 fld45_1 fld109_0 fld109_1 fld94_0 fld94_1 max2_int min2_int max_two min_two max_three min_three max_four min_four
attribute [local go_sem high] eqA23
mutual
def numnahlaw07_SharesFractions.l0:Nat → List (S23) → Int → List (S23) → Int → Bool → Int → Int → Int → Int → Int → Option (Bool)
 | 0,_,_,_,_,_,_,_,_,_,_=>none
 | k + 1,x3,x5,x6,x7,x8,H6,h4,h5,h6,h7=>if H6 < (x3.length:Int) then (if x8 = true then (if 0 ≤ H6 then ((numnahref07_Small.f k ((rd_T23 x3 H6).f0) ((rd_T23 x3 H6).f1)).bind fun r0=>(numnahlaw07_SharesFractions.l0 k x3 x5 x6 x7 r0 (wrap64 (H6 + 1)) h4 h5 h6 h7)) else (none)) else (numnahlaw07_SharesFractions.l0 k x3 x5 x6 x7 false (wrap64 (H6 + 1)) h4 h5 h6 h7)) else (numnahlaw07_SharesFractions.l1 k x3 x5 x6 x7 x8 0 h4 h5 h6 h7)
def numnahlaw07_SharesFractions.j2:Nat → List (S23) → Int → List (S23) → Int → Bool → Int → Int → Int → Int → Option (Bool)
 | 0,_,_,_,_,_,_,_,_,_=>none
 | k + 1,x3,x5,x6,x7,x8,h4,h5,h6,h7=>if x8 = true then (if (!(h4 == h6) || (!(h5 == h7))) = true then (some false) else (if x5 = 0 then (if (x6.length:Int) = (x3.length:Int) then (if x7 = 0 then (numnahlaw07_SharesFractions.j3 k x3 x6) else (some false)) else (some false)) else (some false))) else (if (!(h4 == 0) || (!(h5 == 0))) = true then (some false) else (if x5 = 2 then (if (x6.length:Int) = 0 then (if x7 = 2 then (numnahlaw07_SharesFractions.j3 k x3 x6) else (some false)) else (some false)) else (some false)))
def numnahlaw07_SharesFractions.j3:Nat → List (S23) → List (S23) → Option (Bool)
 | 0,_,_=>none
 | k + 1,x3,x6=>numnahlaw07_SharesFractions.l2 k x3 x6 0
def numnahlaw07_SharesFractions.l2:Nat → List (S23) → List (S23) → Int → Option (Bool)
 | 0,_,_,_=>none
 | k + 1,x3,x6,q9=>if q9 < (x6.length:Int) then (numnahlaw07_SharesFractions.l3 k x3 x6 q9 0 0 0) else (if (x3.length:Int) < 2 then ((numnahlaw07_awake.f k).bind fun t5=>(some t5)) else (if 0 < (x3.length:Int) then (if 1 < (x3.length:Int) then ((shares_Compare.f k ((rd_T23 x3 0).f0) ((rd_T23 x3 0).f1) ((rd_T23 x3 1).f0) ((rd_T23 x3 1).f1)).bind fun q8=>((numnahref07_Small.f k ((rd_T23 x3 0).f0) ((rd_T23 x3 0).f1)).bind fun t6=>(if t6 = true then ((numnahref07_Small.f k ((rd_T23 x3 1).f0) ((rd_T23 x3 1).f1)).bind fun o0=>(numnahlaw07_SharesFractions.j6 k x3 q8.1 q8.2 (!o0))) else (numnahlaw07_SharesFractions.j6 k x3 q8.1 q8.2 true)))) else (none)) else (none)))
def numnahlaw07_SharesFractions.l3:Nat → List (S23) → List (S23) → Int → Int → Int → Int → Option (Bool)
 | 0,_,_,_,_,_,_=>none
 | k + 1,x3,x6,q9,H7,I7,C2=>if C2 < (x3.length:Int) then (if 0 ≤ C2 then (if 0 ≤ q9 then (if q9 < (x6.length:Int) then (if (((rd_T23 x3 C2).f0) == ((rd_T23 x6 q9).f0) && (((rd_T23 x3 C2).f1) == ((rd_T23 x6 q9).f1))) = true then (numnahlaw07_SharesFractions.l3 k x3 x6 q9 H7 (wrap64 (I7 + 1)) (wrap64 (C2 + 1))) else ((numnahref07_Small.f k ((rd_T23 x6 q9).f0) ((rd_T23 x6 q9).f1)).bind fun t7=>(if t7 = true then ((numnahref07_Less.f ((rd_T23 x3 C2).f0) ((rd_T23 x3 C2).f1) ((rd_T23 x6 q9).f0) ((rd_T23 x6 q9).f1)).bind fun q4=>(if q4 = true then (numnahlaw07_SharesFractions.l3 k x3 x6 q9 (wrap64 (H7 + 1)) I7 (wrap64 (C2 + 1))) else (numnahlaw07_SharesFractions.l3 k x3 x6 q9 H7 I7 (wrap64 (C2 + 1))))) else (numnahlaw07_SharesFractions.l3 k x3 x6 q9 H7 I7 (wrap64 (C2 + 1)))))) else (none)) else (none)) else (none)) else (if q9 < H7 then (some false) else (if q9 ≥ (wrap64 (H7 + I7)) then (some false) else (numnahlaw07_SharesFractions.l2 k x3 x6 (wrap64 (q9 + 1)))))
def numnahlaw07_SharesFractions.j6:Nat → List (S23) → Int → Int → Bool → Option (Bool)
 | 0,_,_,_,_=>none
 | k + 1,x3,N4,N5,x176=>if x176 = true then (if N4 = 0 then (if N5 = 2 then ((numnahlaw07_awake.f k).bind fun t8=>(some t8)) else (some false)) else (some false)) else (if 0 < (x3.length:Int) then (if 1 < (x3.length:Int) then ((numnahref07_Less.f ((rd_T23 x3 0).f0) ((rd_T23 x3 0).f1) ((rd_T23 x3 1).f0) ((rd_T23 x3 1).f1)).bind fun t9=>(if t9 = true then (if N4 = (-1) then (if N5 = 0 then ((numnahlaw07_awake.f k).bind fun q5=>(some q5)) else (some false)) else (some false)) else ((numnahref07_Less.f ((rd_T23 x3 1).f0) ((rd_T23 x3 1).f1) ((rd_T23 x3 0).f0) ((rd_T23 x3 0).f1)).bind fun q6=>(if q6 = true then (if N4 = 1 then (if N5 = 0 then ((numnahlaw07_awake.f k).bind fun n6=>(some n6)) else (some false)) else (some false)) else (if N4 = 0 then (if N5 = 0 then ((numnahlaw07_awake.f k).bind fun n7=>(some n7)) else (some false)) else (some false)))))) else (none)) else (none))
def numnahlaw07_SharesFractions.l1:Nat → List (S23) → Int → List (S23) → Int → Bool → Int → Int → Int → Int → Int → Option (Bool)
 | 0,_,_,_,_,_,_,_,_,_,_=>none
 | k + 1,x3,x5,x6,x7,x8,I8,h4,h5,h6,h7=>if I8 < (x3.length:Int) then (if x8 = true then (if 0 ≤ I8 then ((numnahref07_Add.f k h6 h7 ((rd_T23 x3 I8).f0) ((rd_T23 x3 I8).f1)).bind fun x2=>(numnahlaw07_SharesFractions.l1 k x3 x5 x6 x7 x8 (wrap64 (I8 + 1)) h4 h5 x2.1 x2.2)) else (none)) else (numnahlaw07_SharesFractions.j2 k x3 x5 x6 x7 x8 h4 h5 h6 h7)) else (numnahlaw07_SharesFractions.j2 k x3 x5 x6 x7 x8 h4 h5 h6 h7)
end
def numnahlaw07_SharesFractions.f (k:Nat) (l0:List (S23)):Option (Bool):=(numnahlaw07_fracs.f l0).bind fun b0=>((shares_Sum.f k b0).bind fun i4=>((shares_Sorted.f k b0).bind fun l5=>((numnahref07_Whole.f 0).bind fun l6=>(numnahlaw07_SharesFractions.l0 k b0 i4.2.2 l5.1 l5.2 (decide ((b0.length:Int) ≤ 10)) 0 i4.1 i4.2.1 l6.1 l6.2))))
theorem numnahlaw07_SharesFractions.mono_l:∀ k,(∀ y0 y1 y2 y3 y4 y5 y6 y7 y8 y9,LeO (numnahlaw07_SharesFractions.l0 k y0 y1 y2 y3 y4 y5 y6 y7 y8 y9) (numnahlaw07_SharesFractions.l0 (k + 1) y0 y1 y2 y3 y4 y5 y6 y7 y8 y9)) ∧ (∀ y0 y1 y2 y3 y4 y5 y6 y7 y8,LeO (numnahlaw07_SharesFractions.j2 k y0 y1 y2 y3 y4 y5 y6 y7 y8) (numnahlaw07_SharesFractions.j2 (k + 1) y0 y1 y2 y3 y4 y5 y6 y7 y8)) ∧ (∀ y0 y1,LeO (numnahlaw07_SharesFractions.j3 k y0 y1) (numnahlaw07_SharesFractions.j3 (k + 1) y0 y1)) ∧ (∀ y0 y1 y2,LeO (numnahlaw07_SharesFractions.l2 k y0 y1 y2) (numnahlaw07_SharesFractions.l2 (k + 1) y0 y1 y2)) ∧ (∀ y0 y1 y2 y3 y4 y5,LeO (numnahlaw07_SharesFractions.l3 k y0 y1 y2 y3 y4 y5) (numnahlaw07_SharesFractions.l3 (k + 1) y0 y1 y2 y3 y4 y5)) ∧ (∀ y0 y1 y2 y3,LeO (numnahlaw07_SharesFractions.j6 k y0 y1 y2 y3) (numnahlaw07_SharesFractions.j6 (k + 1) y0 y1 y2 y3)) ∧ (∀ y0 y1 y2 y3 y4 y5 y6 y7 y8 y9,LeO (numnahlaw07_SharesFractions.l1 k y0 y1 y2 y3 y4 y5 y6 y7 y8 y9) (numnahlaw07_SharesFractions.l1 (k + 1) y0 y1 y2 y3 y4 y5 y6 y7 y8 y9))
 | 0=>⟨fun _ _ _ _ _ _ _ _ _ _ r h=>by simp [numnahlaw07_SharesFractions.l0] at h,fun _ _ _ _ _ _ _ _ _ r h=>by simp [numnahlaw07_SharesFractions.j2] at h,fun _ _ r h=>by simp [numnahlaw07_SharesFractions.j3] at h,fun _ _ _ r h=>by simp [numnahlaw07_SharesFractions.l2] at h,fun _ _ _ _ _ _ r h=>by simp [numnahlaw07_SharesFractions.l3] at h,fun _ _ _ _ r h=>by simp [numnahlaw07_SharesFractions.j6] at h,fun _ _ _ _ _ _ _ _ _ _ r h=>by simp [numnahlaw07_SharesFractions.l1] at h⟩
 | k + 1=>by
  obtain ⟨C4,C5,C6,C7,C8,C9,D0⟩:=numnahlaw07_SharesFractions.mono_l k
  refine ⟨?_,?_,?_,?_,?_,?_,?_⟩
  ·intro y0 y1 y2 y3 y4 y5 y6 y7 y8 y9
   unfold numnahlaw07_SharesFractions.l0
   repeat' first
   | (with_reducible first | exact C4 _ _ _ _ _ _ _ _ _ _ | exact C5 _ _ _ _ _ _ _ _ _ | exact C6 _ _ | exact C7 _ _ _ | exact C8 _ _ _ _ _ _ | exact C9 _ _ _ _ | exact D0 _ _ _ _ _ _ _ _ _ _ | exact numnahlaw07_awake.mono _ | exact numnahref07_Add.mono _ _ _ _ _ | exact numnahref07_Small.mono _ _ _ | exact shares_Compare.mono _ _ _ _ _ | exact shares_Sorted.mono _ _ | exact shares_Sum.mono _ _ | exact LeO.refl _ | exact LeO.none _ | refine LeO.ite ?_ ?_ | refine LeO.bind ?_ (fun _=>?_))
   | exact LeO.none _ | refine LeO.ite ?_ ?_ | refine LeO.bind ?_ (fun _=>?_)
  ·intro y0 y1 y2 y3 y4 y5 y6 y7 y8
   unfold numnahlaw07_SharesFractions.j2
   repeat' first
   | (with_reducible first | exact C4 _ _ _ _ _ _ _ _ _ _ | exact C5 _ _ _ _ _ _ _ _ _ | exact C6 _ _ | exact C7 _ _ _ | exact C8 _ _ _ _ _ _ | exact C9 _ _ _ _ | exact D0 _ _ _ _ _ _ _ _ _ _ | exact numnahlaw07_awake.mono _ | exact numnahref07_Add.mono _ _ _ _ _ | exact numnahref07_Small.mono _ _ _ | exact shares_Compare.mono _ _ _ _ _ | exact shares_Sorted.mono _ _ | exact shares_Sum.mono _ _ | exact LeO.refl _ | exact LeO.none _ | refine LeO.ite ?_ ?_ | refine LeO.bind ?_ (fun _=>?_))
   | exact LeO.none _ | refine LeO.ite ?_ ?_ | refine LeO.bind ?_ (fun _=>?_)
  ·intro y0 y1
   unfold numnahlaw07_SharesFractions.j3
   repeat' first
   | (with_reducible first | exact C4 _ _ _ _ _ _ _ _ _ _ | exact C5 _ _ _ _ _ _ _ _ _ | exact C6 _ _ | exact C7 _ _ _ | exact C8 _ _ _ _ _ _ | exact C9 _ _ _ _ | exact D0 _ _ _ _ _ _ _ _ _ _ | exact numnahlaw07_awake.mono _ | exact numnahref07_Add.mono _ _ _ _ _ | exact numnahref07_Small.mono _ _ _ | exact shares_Compare.mono _ _ _ _ _ | exact shares_Sorted.mono _ _ | exact shares_Sum.mono _ _ | exact LeO.refl _ | exact LeO.none _ | refine LeO.ite ?_ ?_ | refine LeO.bind ?_ (fun _=>?_))
   | exact LeO.none _ | refine LeO.ite ?_ ?_ | refine LeO.bind ?_ (fun _=>?_)
  ·intro y0 y1 y2
   unfold numnahlaw07_SharesFractions.l2
   repeat' first
   | (with_reducible first | exact C4 _ _ _ _ _ _ _ _ _ _ | exact C5 _ _ _ _ _ _ _ _ _ | exact C6 _ _ | exact C7 _ _ _ | exact C8 _ _ _ _ _ _ | exact C9 _ _ _ _ | exact D0 _ _ _ _ _ _ _ _ _ _ | exact numnahlaw07_awake.mono _ | exact numnahref07_Add.mono _ _ _ _ _ | exact numnahref07_Small.mono _ _ _ | exact shares_Compare.mono _ _ _ _ _ | exact shares_Sorted.mono _ _ | exact shares_Sum.mono _ _ | exact LeO.refl _ | exact LeO.none _ | refine LeO.ite ?_ ?_ | refine LeO.bind ?_ (fun _=>?_))
   | exact LeO.none _ | refine LeO.ite ?_ ?_ | refine LeO.bind ?_ (fun _=>?_)
  ·intro y0 y1 y2 y3 y4 y5
   unfold numnahlaw07_SharesFractions.l3
   repeat' first
   | (with_reducible first | exact C4 _ _ _ _ _ _ _ _ _ _ | exact C5 _ _ _ _ _ _ _ _ _ | exact C6 _ _ | exact C7 _ _ _ | exact C8 _ _ _ _ _ _ | exact C9 _ _ _ _ | exact D0 _ _ _ _ _ _ _ _ _ _ | exact numnahlaw07_awake.mono _ | exact numnahref07_Add.mono _ _ _ _ _ | exact numnahref07_Small.mono _ _ _ | exact shares_Compare.mono _ _ _ _ _ | exact shares_Sorted.mono _ _ | exact shares_Sum.mono _ _ | exact LeO.refl _ | exact LeO.none _ | refine LeO.ite ?_ ?_ | refine LeO.bind ?_ (fun _=>?_))
   | exact LeO.none _ | refine LeO.ite ?_ ?_ | refine LeO.bind ?_ (fun _=>?_)
  ·intro y0 y1 y2 y3
   unfold numnahlaw07_SharesFractions.j6
   repeat' first
   | (with_reducible first | exact C4 _ _ _ _ _ _ _ _ _ _ | exact C5 _ _ _ _ _ _ _ _ _ | exact C6 _ _ | exact C7 _ _ _ | exact C8 _ _ _ _ _ _ | exact C9 _ _ _ _ | exact D0 _ _ _ _ _ _ _ _ _ _ | exact numnahlaw07_awake.mono _ | exact numnahref07_Add.mono _ _ _ _ _ | exact numnahref07_Small.mono _ _ _ | exact shares_Compare.mono _ _ _ _ _ | exact shares_Sorted.mono _ _ | exact shares_Sum.mono _ _ | exact LeO.refl _ | exact LeO.none _ | refine LeO.ite ?_ ?_ | refine LeO.bind ?_ (fun _=>?_))
   | exact LeO.none _ | refine LeO.ite ?_ ?_ | refine LeO.bind ?_ (fun _=>?_)
  intro y0 y1 y2 y3 y4 y5 y6 y7 y8 y9
  unfold numnahlaw07_SharesFractions.l1
  repeat' first
  | (with_reducible first | exact C4 _ _ _ _ _ _ _ _ _ _ | exact C5 _ _ _ _ _ _ _ _ _ | exact C6 _ _ | exact C7 _ _ _ | exact C8 _ _ _ _ _ _ | exact C9 _ _ _ _ | exact D0 _ _ _ _ _ _ _ _ _ _ | exact numnahlaw07_awake.mono _ | exact numnahref07_Add.mono _ _ _ _ _ | exact numnahref07_Small.mono _ _ _ | exact shares_Compare.mono _ _ _ _ _ | exact shares_Sorted.mono _ _ | exact shares_Sum.mono _ _ | exact LeO.refl _ | exact LeO.none _ | refine LeO.ite ?_ ?_ | refine LeO.bind ?_ (fun _=>?_))
  | exact LeO.none _ | refine LeO.ite ?_ ?_ | refine LeO.bind ?_ (fun _=>?_)
theorem numnahlaw07_SharesFractions.mono:∀ a0 k,LeO (numnahlaw07_SharesFractions.f k a0) (numnahlaw07_SharesFractions.f (k + 1) a0):=by
 intro a0 k
 obtain ⟨C4,C5,C6,C7,C8,C9,D0⟩:=numnahlaw07_SharesFractions.mono_l k
 unfold numnahlaw07_SharesFractions.f
 repeat' first
   | (with_reducible first | exact C4 _ _ _ _ _ _ _ _ _ _ | exact C5 _ _ _ _ _ _ _ _ _ | exact C6 _ _ | exact C7 _ _ _ | exact C8 _ _ _ _ _ _ | exact C9 _ _ _ _ | exact D0 _ _ _ _ _ _ _ _ _ _ | exact numnahlaw07_awake.mono _ | exact numnahref07_Add.mono _ _ _ _ _ | exact numnahref07_Small.mono _ _ _ | exact shares_Compare.mono _ _ _ _ _ | exact shares_Sorted.mono _ _ | exact shares_Sum.mono _ _ | exact LeO.refl _ | exact LeO.none _ | refine LeO.ite ?_ ?_ | refine LeO.bind ?_ (fun _=>?_))
   | exact LeO.none _ | refine LeO.ite ?_ ?_ | refine LeO.bind ?_ (fun _=>?_)
def numnahlaw07_SharesFractions.T26:Bool × List (List Nat × List Nat):=(true,[([],[]),([],[]),([0,1],[0,1]),([2],[2]),([],[]),([],[]),([4,5],[4,5]),([6],[6]),([3,7],[3,7])])
def numnahlaw07_SharesFractions.B26:List Nat:=[0,0,3,7,0,0,48,112,255]
theorem numnahlaw07_SharesFractions.tab26:rtab .any (opsOf Try.f12 26) = numnahlaw07_SharesFractions.T26:=by kernel_rfl
theorem numnahlaw07_SharesFractions.bits26:waitsOk numnahlaw07_SharesFractions.T26.2 numnahlaw07_SharesFractions.B26 = true:=by kernel_rfl
def numnahlaw07_SharesFractions.T28:Bool × List (List Nat × List Nat):=(true,[([],[]),([],[]),([0,1],[0,1]),([2],[2]),([3],[3]),([4,4],[4]),([5],[5]),([5],[5]),([6,7,5],[5,6,7]),([8,5],[5,8]),([5],[5]),([5],[5]),([10,11,5],[5,10,11]),([12,5],[5,12]),([9,13,5,5],[5,9,13]),([5,14],[5,14])])
def numnahlaw07_SharesFractions.B28:List Nat:=[0,0,3,7,15,31,63,63,255,511,63,63,3135,7231,16383,32767]
theorem numnahlaw07_SharesFractions.tab28:rtab .any (opsOf Try.f12 28) = numnahlaw07_SharesFractions.T28:=by kernel_rfl
theorem numnahlaw07_SharesFractions.bits28:waitsOk numnahlaw07_SharesFractions.T28.2 numnahlaw07_SharesFractions.B28 = true:=by kernel_rfl
def numnahlaw07_SharesFractions.T34:Bool × List (List Nat × List Nat):=(true,[([],[]),([0],[0]),([1],[1]),([],[]),([3],[3]),([4],[4]),([2,5],[2,5]),([6],[6]),([7],[7]),([7],[7]),([8,6,0,1,2,3,4,5,6,7,8],[8]),([9,10,0,1,2,3,4,5,6,7,8,9,10],[9])])
def numnahlaw07_SharesFractions.B34:List Nat:=[0,1,3,0,8,24,63,127,255,255,511,2047]
theorem numnahlaw07_SharesFractions.tab34:rtab .any (opsOf Try.f12 34) = numnahlaw07_SharesFractions.T34:=by kernel_rfl
theorem numnahlaw07_SharesFractions.bits34:waitsOk numnahlaw07_SharesFractions.T34.2 numnahlaw07_SharesFractions.B34 = true:=by kernel_rfl
theorem numnahlaw07_SharesFractions.calls (k:Nat) (A0:Option Addr) (c0:Nat) (l0:List (S23)) (r:Bool) (w:World) (U5:Kd.C k23 w A0 l0.length l0) (U6:l0.length ≤ c0) (h:numnahlaw07_SharesFractions.f k l0 = some r) (hrt_:r = true) :
  Calls Try.prog 12 #[.slice A0 l0.length c0] w fun e w'=>e = .returned (.bool r) ∧ Below w.heap.size w w':=by
 have HRT:=Aside0.mk hrt_
 clear hrt_
 have X5:=Try.underlying23
 have X6:=A_ U5
 have X7:=A_ U6
 clear U5 U6
 have HB:=A_ (Below.refl w.heap.size w)
 have H:((numnahlaw07_fracs.f l0).bind fun b0=>((shares_Sum.f k b0).bind fun i4=>((shares_Sorted.f k b0).bind fun l5=>((numnahref07_Whole.f 0).bind fun l6=>(numnahlaw07_SharesFractions.l0 k b0 i4.2.2 l5.1 l5.2 (decide ((b0.length:Int) ≤ 10)) 0 i4.1 i4.2.1 l6.1 l6.2))))) = some r:=h
 clear h
 replace H:=Option.bind_eq_some_iff.mp H
 obtain ⟨b0,U7,H⟩:=H
 replace H:((shares_Sum.f k b0).bind fun i4=>((shares_Sorted.f k b0).bind fun l5=>((numnahref07_Whole.f 0).bind fun l6=>(numnahlaw07_SharesFractions.l0 k b0 i4.2.2 l5.1 l5.2 (decide ((b0.length:Int) ≤ 10)) 0 i4.1 i4.2.1 l6.1 l6.2)))) = some r:=H
 have A2:=A_ U7
 clear U7
 replace H:=Option.bind_eq_some_iff.mp H
 obtain ⟨⟨e1,e4,h9⟩,A30,H⟩:=H
 dsimp only at H
 have A3:=A_ A30
 clear A30
 replace H:=Option.bind_eq_some_iff.mp H
 obtain ⟨⟨b4,i0⟩,A40,H⟩:=H
 dsimp only at H
 have A4:=A_ A40
 clear A40
 replace H:=Option.bind_eq_some_iff.mp H
 obtain ⟨⟨n2,n8⟩,A50,H⟩:=H
 replace H:(numnahlaw07_SharesFractions.l0 k b0 h9 b4 i0 (decide ((b0.length:Int) ≤ 10)) 0 e1 e4 n2 n8) = some r:=H
 have A5:=A_ A50
 clear A50
 have H':=A_ H
 clear H
 go_enter Try.func12,Try.ntmps12
 go_wp2_with (first | ((with_reducible refine gate_callee (f:=36) rfl ?_);refine gL (some 20) Try.func36 #[.slice A0 l0.length c0] ?_;(with_reducible refine (numnahlaw07_fracs.calls _ _ l0 b0 _ ?side1 ?side2 A2.out).mono ?_);(case side1=>repeat (first | exact X6.out | (with_reducible refine Kd.C_alloc ?_ _) | (with_reducible refine Kd.C_drewN ?_ _) | (with_reducible refine Kd.C_drew ?_)));(case side2=>exact X7.out);rintro e w6 ⟨U8,rfl,N6,hb⟩;refine ⟨_,rfl,?_⟩;have e5:=A_ (Kd.R_lower N6 (below_size (bl HB)));replace HB:=bB HB hb;(try clear hb);obtain ⟨x0,s0,X8⟩:=Kd.R_slice e5.out;subst X8) | ((with_reducible refine gate_callee (f:=48) rfl ?_);refine gL (some 23) Try.func48 #[.slice x0 b0.length s0] ?_;(with_reducible refine (shares_Sum.calls k _ _ b0 e1 e4 h9 _ ?side1 ?side2 A3.out).mono ?_);(case side1=>repeat (first | exact (Kd.R_reads' e5.out).2.2 | (with_reducible refine Kd.C_alloc ?_ _) | (with_reducible refine Kd.C_drewN ?_ _) | (with_reducible refine Kd.C_drew ?_)));(case side2=>exact (Kd.R_reads' e5.out).2.1);rintro e w8 ⟨rfl,hb⟩;refine ⟨_,rfl,?_⟩;replace e5:=rB e5 hb;replace HB:=bB HB hb;(try clear hb)) | ((with_reducible refine gate_dst (N:=4) rfl ?_);(try (refine gate_guard (by rfl) ?_;dsimp only));refine bx 4 #[.int .i64 0,.int .i64 0] 23 ?_;intro c1 hg w9 hbox hb;have b1:=A_ hbox;have E4:=gw hg HB;have Q7:=E4;replace e5:=A_ (Kd.R_below (Kd.R_elderB (rs e5) c1 (Nat.le_of_eq hg.symm)) hb);replace HB:=bB HB hb;clear hb hbox hg;have N7:w9.cell? ⟨c1,0,none⟩ = some (.int .i64 0):=cz b1 0;have N8:w9.cell? ⟨c1,1,none⟩ = some (.int .i64 0):=cz b1 1;have N9:=blk_frozen b1.out 0;have O0:=blk_frozen b1.out 1) | ((with_reducible refine gate_callee (f:=49) rfl ?_);refine gL (some 28) Try.func49 #[.slice x0 b0.length s0] ?_;(with_reducible refine (shares_Sorted.calls k _ _ b0 b4 i0 _ ?side1 ?side2 A4.out).mono ?_);(case side1=>refine (Kd.R_reads' (e:=23) (base:=w.heap.size) (ok:=fun k_=>(True ∧ k_ ≠ c1)) (n:=b0.length) (c:=s0) ?_).2.2;exact (by (with_reducible repeat (first | apply Kd.R_alloc | apply Kd.R_drewN | apply Kd.R_drew));exact (Kd.R_mono (Kd.R_far (p:=⟨c1,1,none⟩) (Kd.R_far (p:=⟨c1,0,none⟩) (Kd.R_mono e5.out (fun k_ hk=>(⟨hk,hk.2⟩:_ ∧ k_ ≠ c1))) (fun _ hk=>hk.2) (.int .i64 e1)) (fun _ hk=>hk.2) (.int .i64 e4)) (fun _ h_=>h_.1))));(case side2=>exact (Kd.R_reads' e5.out).2.1);rintro e w11 ⟨n1,rfl,N6,hb⟩;refine ⟨_,rfl,?_⟩;have o1:=A_ (Kd.R_lower (Kd.R_newB (Kd.R_new' N6 (Kd.R_lt (by (with_reducible repeat (first | apply Kd.R_alloc | apply Kd.R_drewN | apply Kd.R_drew));exact (Kd.R_mono (Kd.R_far (p:=⟨c1,1,none⟩) (Kd.R_far (p:=⟨c1,0,none⟩) (Kd.R_mono e5.out (fun k_ hk=>(⟨hk,hk.2⟩:_ ∧ k_ ≠ c1))) (fun _ hk=>hk.2) (.int .i64 e1)) (fun _ hk=>hk.2) (.int .i64 e4)) (fun _ h_=>h_.1))))) (g:=c1) (o:=.cells #[.int .i64 e1,.int .i64 e4] 23 (0,0)) (by (with_reducible repeat (first | refine blk_drewN ?_ _ | refine blk_drew ?_ | refine blk_alloc ?_ _));refine blk_put (cs:=#[.int .i64 e1,.int .i64 0]) ?_ 1 _ rfl;(with_reducible repeat (first | refine blk_drewN ?_ _ | refine blk_drew ?_ | refine blk_alloc ?_ _));refine blk_put (cs:=#[.int .i64 0,.int .i64 0]) ?_ 0 _ rfl;(with_reducible repeat (first | refine blk_drewN ?_ _ | refine blk_drew ?_ | refine blk_alloc ?_ _));exact b1.out)) (below_size (bl HB)));replace e5:=A_ (Kd.R_elder' (by (with_reducible repeat (first | apply Kd.R_alloc | apply Kd.R_drewN | apply Kd.R_drew));exact (Kd.R_mono (Kd.R_far (p:=⟨c1,1,none⟩) (Kd.R_far (p:=⟨c1,0,none⟩) (Kd.R_mono e5.out (fun k_ hk=>(⟨hk,hk.2⟩:_ ∧ k_ ≠ c1))) (fun _ hk=>hk.2) (.int .i64 e1)) (fun _ hk=>hk.2) (.int .i64 e4)) (fun _ h_=>h_.1))) (Kd.R_base N6) hb);replace b1:=A_ (blk_below (g:=c1) (o:=.cells #[.int .i64 e1,.int .i64 e4] 23 (0,0)) (by (with_reducible repeat (first | refine blk_drewN ?_ _ | refine blk_drew ?_ | refine blk_alloc ?_ _));refine blk_put (cs:=#[.int .i64 e1,.int .i64 0]) ?_ 1 _ rfl;(with_reducible repeat (first | refine blk_drewN ?_ _ | refine blk_drew ?_ | refine blk_alloc ?_ _));refine blk_put (cs:=#[.int .i64 0,.int .i64 0]) ?_ 0 _ rfl;(with_reducible repeat (first | refine blk_drewN ?_ _ | refine blk_drew ?_ | refine blk_alloc ?_ _));exact b1.out) hb);replace HB:=bB HB hb;(try clear hb)) | ((with_reducible refine gate_callee (f:=23) rfl ?_);refine gL (some 34) Try.func23 #[.int .i64 0] ?_;(with_reducible refine (numnahref07_Whole.calls 0 n2 n8 _ A5.out).mono ?_);rintro e w12 ⟨rfl,hb⟩;refine ⟨_,rfl,?_⟩;replace e5:=rB e5 hb;replace o1:=rB o1 hb;replace b1:=kB b1 hb;replace HB:=bB HB hb;(try clear hb)) | ((with_reducible refine gate_dst (N:=9) rfl ?_);(try (refine gate_guard (by rfl) ?_;dsimp only));refine bx 9 #[.int .i64 0,.int .i64 0] 23 ?_;intro b8 hg U9 hbox hb;have b2:=A_ hbox;have E5:=gw hg HB;have Q8:=E5;have e2:=nl hg b1;have i1:=ng hg b1;replace e5:=A_ (Kd.R_below (Kd.R_elderB (rs e5) b8 (Nat.le_of_eq hg.symm)) hb);replace o1:=A_ (Kd.R_below (Kd.R_elderB (rs o1) b8 (Nat.le_of_eq hg.symm)) hb);replace b1:=kB b1 hb;replace HB:=bB HB hb;clear hb hbox hg;have V0:=i1.out;have V1:=e2.out;have O1:U9.cell? ⟨b8,0,none⟩ = some (.int .i64 0):=cz b2 0;have O2:U9.cell? ⟨b8,1,none⟩ = some (.int .i64 0):=cz b2 1;have O3:=blk_frozen b2.out 0;have O4:=blk_frozen b2.out 1))
 go_loopg [8,10] k (fun kq v8 X9 w'=>∃ (r1:Bool) (j9:Int),v8 = .bool r1 ∧ X9 = .int .i64 j9 ∧ Aside0 (numnahlaw07_SharesFractions.l0 kq b0 h9 b4 i0 r1 j9 e1 e4 n2 n8 = some r) ∧ Aside0 (kq ≤ k) ∧ Aside0 (Kd.R k23 23 w' w.heap.size (fun k_=>some k_ ≠ (n1:Value).ownBlock ∧ k_ ≠ c1 ∧ k_ ≠ b8) (.slice x0 b0.length s0) b0) ∧ Aside0 (Kd.R k23 23 w' w.heap.size (fun k_=>some k_ ≠ ((.slice x0 b0.length s0):Value).ownBlock ∧ k_ ≠ c1 ∧ k_ ≠ b8) n1 b4) ∧ Aside0 (w'.heap[c1]? = some (.cells #[.int .i64 e1,.int .i64 e4] 23 (0,0))) ∧ Aside0 (w'.heap[b8]? = some (.cells #[.int .i64 n2,.int .i64 n8] 23 (0,0))) ∧ Aside0 (Below w.heap.size w w'))
 case atStart=>exact ⟨(decide ((b0.length:Int) ≤ 10)),(0),(by first | rfl | (simp;done) | (simp [*];done)),(by first | rfl | (simp;done) | (simp [*];done)),H',⟨Nat.le_refl _⟩,⟨by (with_reducible repeat (first | apply Kd.R_alloc | apply Kd.R_drewN | apply Kd.R_drew));exact Kd.R_mono (Kd.R_far (p:=⟨b8,1,none⟩) (Kd.R_far (p:=⟨b8,0,none⟩) (Kd.R_mono e5.out (fun k_ hk=>(⟨hk,hk.2⟩:_ ∧ k_ ≠ b8))) (fun _ hk=>hk.2) (.int .i64 n2)) (fun _ hk=>hk.2) (.int .i64 n8)) (fun _ hk=>⟨hk.1.1.2,⟨hk.1.1.1.2,hk.1.2⟩⟩)⟩,⟨by (with_reducible repeat (first | apply Kd.R_alloc | apply Kd.R_drewN | apply Kd.R_drew));exact Kd.R_mono (Kd.R_far (p:=⟨b8,1,none⟩) (Kd.R_far (p:=⟨b8,0,none⟩) (Kd.R_mono o1.out (fun k_ hk=>(⟨hk,hk.2⟩:_ ∧ k_ ≠ b8))) (fun _ hk=>hk.2) (.int .i64 n2)) (fun _ hk=>hk.2) (.int .i64 n8)) (fun _ hk=>⟨hk.1.1.1.2,⟨hk.1.1.2,hk.1.2⟩⟩)⟩,⟨by (with_reducible repeat (first | refine blk_drewN ?_ _ | refine blk_drew ?_ | refine blk_alloc ?_ _));refine blk_far ?_ e2.out _;(with_reducible repeat (first | refine blk_drewN ?_ _ | refine blk_drew ?_ | refine blk_alloc ?_ _));refine blk_far ?_ e2.out _;(with_reducible repeat (first | refine blk_drewN ?_ _ | refine blk_drew ?_ | refine blk_alloc ?_ _));exact b1.out⟩,⟨by (with_reducible repeat (first | refine blk_drewN ?_ _ | refine blk_drew ?_ | refine blk_alloc ?_ _));refine blk_put (cs:=#[.int .i64 n2,.int .i64 0]) ?_ 1 _ rfl;(with_reducible repeat (first | refine blk_drewN ?_ _ | refine blk_drew ?_ | refine blk_alloc ?_ _));refine blk_put (cs:=#[.int .i64 0,.int .i64 0]) ?_ 0 _ rfl;(with_reducible repeat (first | refine blk_drewN ?_ _ | refine blk_drew ?_ | refine blk_alloc ?_ _));exact b2.out⟩,⟨bl HB⟩⟩
 case round=>as_aux_lemma =>
  clear H'
  obtain ⟨r1,j9,rfl,rfl,HA,p9,b6,b9,b1,b2,HB⟩:=hrel
  cases gk with
  | zero=>exact absurd HA.out (by simp [numnahlaw07_SharesFractions.l0])
  | succ k1 =>
   have H:=HA.out
   clear HA
   simp only [numnahlaw07_SharesFractions.l0] at H
   by_cases H8:j9 < (b0.length:Int)
   ·rw [if_pos H8] at H
    have I9:=decide_eq_true H8
    clear H8
    by_cases O5:r1 = true
    case neg =>
     replace O5:=Bool.eq_false_iff.mpr O5
     subst O5
     rw [if_neg (show ¬ (false = true) by decide)] at H
     have H':=A_ H
     clear H
     go_wp2
     go_roundg k1
     case measure=>have:=p9.out;omega
     case rel=>exact ⟨(false),(wrap64 (j9 + 1)),(by first | rfl | (simp;done) | (simp [*];done)),(by first | rfl | (simp;done) | (simp [*];done)),H',⟨by have:=p9.out;omega⟩,⟨by (with_reducible repeat (first | apply Kd.R_alloc | apply Kd.R_drewN | apply Kd.R_drew));exact b6.out⟩,⟨by (with_reducible repeat (first | apply Kd.R_alloc | apply Kd.R_drewN | apply Kd.R_drew));exact b9.out⟩,⟨by (with_reducible repeat (first | refine blk_drewN ?_ _ | refine blk_drew ?_ | refine blk_alloc ?_ _));exact b1.out⟩,⟨by (with_reducible repeat (first | refine blk_drewN ?_ _ | refine blk_drew ?_ | refine blk_alloc ?_ _));exact b2.out⟩,⟨bl HB⟩⟩
    subst O5
    rw [if_pos rfl] at H
    replace H:=gd H
    obtain ⟨V2,H⟩:=H
    have V3:=decide_eq_true V2
    clear V2
    replace H:=Option.bind_eq_some_iff.mp H
    obtain ⟨r0,J0,H⟩:=H
    replace H:(numnahlaw07_SharesFractions.l0 k1 b0 h9 b4 i0 r0 (wrap64 (j9 + 1)) e1 e4 n2 n8) = some r:=H
    have Y0:=A_ J0
    clear J0
    have H':=A_ H
    clear H
    have x4:0 ≤ (j9:Int):=of_decide_eq_true (by first | (with_reducible assumption) | assumption)
    have x9:j9 < (b0.length:Int):=of_decide_eq_true (by first | (with_reducible assumption) | assumption)
    obtain ⟨Q9,J1,J2,J3⟩:=at_T23 (Kd.R_reads' b6.out).2.2 j9 x4 x9
    cases J1
    replace x4:=eq_true x4
    replace x9:=eq_true x9
    go_wp2_with (first | (go_at_call 50;(with_reducible refine (numnahref07_Small.calls k1 ((rd_T23 b0 j9).f0) ((rd_T23 b0 j9).f1) r0 _ Y0.out).mono ?_);rintro e w20 ⟨rfl,hb⟩;replace b6:=rB b6 hb;replace b9:=rB b9 hb;replace b1:=kB b1 hb;replace b2:=kB b2 hb;replace HB:=bB HB hb;(try clear hb)))
    go_roundg k1
    case measure=>have:=p9.out;omega
    case rel=>exact ⟨(r0),(wrap64 (j9 + 1)),(by first | rfl | (simp;done) | (simp [*];done)),(by first | rfl | (simp;done) | (simp [*];done)),H',⟨by have:=p9.out;omega⟩,⟨by (with_reducible repeat (first | apply Kd.R_alloc | apply Kd.R_drewN | apply Kd.R_drew));exact b6.out⟩,⟨by (with_reducible repeat (first | apply Kd.R_alloc | apply Kd.R_drewN | apply Kd.R_drew));exact b9.out⟩,⟨by (with_reducible repeat (first | refine blk_drewN ?_ _ | refine blk_drew ?_ | refine blk_alloc ?_ _));exact b1.out⟩,⟨by (with_reducible repeat (first | refine blk_drewN ?_ _ | refine blk_drew ?_ | refine blk_alloc ?_ _));exact b2.out⟩,⟨bl HB⟩⟩
   rw [if_neg H8] at H
   have I9:=decide_eq_false H8
   clear H8
   have E6:=A_ H
   clear H
   go_upto_block 2 with (fail)
   go_cut [] (fun wc=>∃ (kq:Nat) (d1:Int) (d2:Int),Aside0 (numnahlaw07_SharesFractions.j2 kq b0 h9 b4 i0 r1 e1 e4 d1 d2 = some r) ∧ Aside0 (kq ≤ k1) ∧ Aside0 (Kd.R k23 23 wc w.heap.size (fun k_=>some k_ ≠ (n1:Value).ownBlock ∧ k_ ≠ c1 ∧ k_ ≠ b8) (.slice x0 b0.length s0) b0) ∧ Aside0 (Kd.R k23 23 wc w.heap.size (fun k_=>some k_ ≠ ((.slice x0 b0.length s0):Value).ownBlock ∧ k_ ≠ c1 ∧ k_ ≠ b8) n1 b4) ∧ Aside0 (wc.heap[c1]? = some (.cells #[.int .i64 e1,.int .i64 e4] 23 (0,0))) ∧ Aside0 (wc.heap[b8]? = some (.cells #[.int .i64 d1,.int .i64 d2] 23 (0,0))) ∧ Aside0 (Below w.heap.size w wc))
   case first=>as_aux_lemma =>
    have H:=E6.out
    clear E6
    have H':=A_ H
    clear H
    go_wp2
    go_loopg [11] k1 (fun kq Y1 w'=>∃ (h8:Int) (e3:Int) (d7:Int),Y1 = .int .i64 h8 ∧ Aside0 (numnahlaw07_SharesFractions.l1 kq b0 h9 b4 i0 r1 h8 e1 e4 e3 d7 = some r) ∧ Aside0 (kq ≤ k1) ∧ Aside0 (Kd.R k23 23 w' w.heap.size (fun k_=>some k_ ≠ (n1:Value).ownBlock ∧ k_ ≠ c1 ∧ k_ ≠ b8) (.slice x0 b0.length s0) b0) ∧ Aside0 (Kd.R k23 23 w' w.heap.size (fun k_=>some k_ ≠ ((.slice x0 b0.length s0):Value).ownBlock ∧ k_ ≠ c1 ∧ k_ ≠ b8) n1 b4) ∧ Aside0 (w'.heap[c1]? = some (.cells #[.int .i64 e1,.int .i64 e4] 23 (0,0))) ∧ Aside0 (w'.heap[b8]? = some (.cells #[.int .i64 e3,.int .i64 d7] 23 (0,0))) ∧ Aside0 (Below w.heap.size w w'))
    case atStart=>exact ⟨(0),(n2),(n8),(by first | rfl | (simp;done) | (simp [*];done)),H',⟨Nat.le_refl _⟩,⟨by (with_reducible repeat (first | apply Kd.R_alloc | apply Kd.R_drewN | apply Kd.R_drew));exact b6.out⟩,⟨by (with_reducible repeat (first | apply Kd.R_alloc | apply Kd.R_drewN | apply Kd.R_drew));exact b9.out⟩,⟨by (with_reducible repeat (first | refine blk_drewN ?_ _ | refine blk_drew ?_ | refine blk_alloc ?_ _));exact b1.out⟩,⟨by (with_reducible repeat (first | refine blk_drewN ?_ _ | refine blk_drew ?_ | refine blk_alloc ?_ _));exact b2.out⟩,⟨bl HB⟩⟩
    case round=>as_aux_lemma =>
     clear H'
     obtain ⟨h8,e3,d7,rfl,HA,O6,b6,b9,b1,b2,HB⟩:=hrel
     cases gk with
     | zero=>exact absurd HA.out (by simp [numnahlaw07_SharesFractions.l1])
     | succ k2 =>
      have H:=HA.out
      clear HA
      simp only [numnahlaw07_SharesFractions.l1] at H
      by_cases H9:h8 < (b0.length:Int)
      case neg =>
       rw [if_neg H9] at H
       have r2:=decide_eq_false H9
       clear H9
       (first | rw [r2] | (simp only [i64_w,i32_w];rw [r2]) | skip)
       have H':=A_ H
       clear H
       go_wp2
       go_meet
       case rel=>exact ⟨_,(e3),(d7),H',⟨by have:=p9.out;have:=O6.out;first | omega | exact Nat.le_refl _⟩,⟨by (with_reducible repeat (first | apply Kd.R_alloc | apply Kd.R_drewN | apply Kd.R_drew));exact b6.out⟩,⟨by (with_reducible repeat (first | apply Kd.R_alloc | apply Kd.R_drewN | apply Kd.R_drew));exact b9.out⟩,⟨by (with_reducible repeat (first | refine blk_drewN ?_ _ | refine blk_drew ?_ | refine blk_alloc ?_ _));exact b1.out⟩,⟨by (with_reducible repeat (first | refine blk_drewN ?_ _ | refine blk_drew ?_ | refine blk_alloc ?_ _));exact b2.out⟩,⟨bl HB⟩⟩
      rw [if_pos H9] at H
      have r2:=decide_eq_true H9
      clear H9
      (first | rw [r2] | (simp only [i64_w,i32_w];rw [r2]) | skip)
      by_cases O7:r1 = true
      case neg =>
       replace O7:=Bool.eq_false_iff.mpr O7
       subst O7
       rw [if_neg (show ¬ (false = true) by decide)] at H
       have H':=A_ H
       clear H
       go_wp2
       go_meet
       case rel=>exact ⟨_,(e3),(d7),H',⟨by have:=p9.out;have:=O6.out;first | omega | exact Nat.le_refl _⟩,⟨by (with_reducible repeat (first | apply Kd.R_alloc | apply Kd.R_drewN | apply Kd.R_drew));exact b6.out⟩,⟨by (with_reducible repeat (first | apply Kd.R_alloc | apply Kd.R_drewN | apply Kd.R_drew));exact b9.out⟩,⟨by (with_reducible repeat (first | refine blk_drewN ?_ _ | refine blk_drew ?_ | refine blk_alloc ?_ _));exact b1.out⟩,⟨by (with_reducible repeat (first | refine blk_drewN ?_ _ | refine blk_drew ?_ | refine blk_alloc ?_ _));exact b2.out⟩,⟨bl HB⟩⟩
      subst O7
      rw [if_pos rfl] at H
      replace H:=gd H
      obtain ⟨V4,H⟩:=H
      have V5:=decide_eq_true V4
      clear V4
      replace H:=Option.bind_eq_some_iff.mp H
      obtain ⟨⟨q7,r3⟩,A250,H⟩:=H
      replace H:(numnahlaw07_SharesFractions.l1 k2 b0 h9 b4 i0 true (wrap64 (h8 + 1)) e1 e4 q7 r3) = some r:=H
      have Y2:=A_ A250
      clear A250
      have H':=A_ H
      clear H
      try go_wp2
      replace b6:=rD b6
      replace b9:=rD b9
      replace b1:=kD b1
      replace b2:=kD b2
      replace HB:=bD HB
      have z0:0 ≤ (h8:Int):=of_decide_eq_true (by first | (with_reducible assumption) | assumption)
      have z1:h8 < (b0.length:Int):=of_decide_eq_true (by first | (with_reducible assumption) | assumption)
      obtain ⟨s1,J4,r4,r5⟩:=at_T23 (Kd.R_reads' b6.out).2.2 h8 z0 z1
      cases J4
      replace z0:=eq_true z0
      replace z1:=eq_true z1
      refine start_ (n:=7) (S:=fun w'=>w'.cell? ⟨b8,0,none⟩ = some (.int .i64 e3) ∧ w'.cell? ⟨b8,1,none⟩ = some (.int .i64 d7) ∧ w'.cell? (s1.add ((h8).toNat * 2)) = some (.int .i64 ((rd_T23 b0 h8).f0)) ∧ w'.cell? ⟨(s1.add ((h8).toNat * 2)).block,(s1.add ((h8).toNat * 2)).off + 1,none⟩ = some (.int .i64 ((rd_T23 b0 h8).f1))) (ds:=[6]) (ba 7 0) (by kernel_rfl) rfl rfl ⟨cz b2 0,cz b2 1,r4,r5⟩ (fun hHeld=>?_)
      generalize wr.drew = w26 at b6 b9 b1 b2 HB r4 r5 hHeld ⊢
      refine pr 1 59 2 ?_
      refine pr 2 60 6 ?_
      refine pr 3 61 14 ?_
      refine tr 0 58 15 hHeld ?_
      refine tr 4 62 31 hHeld ?_
      refine os 5 63 63 (fun K hK=>?_)
      refine gq Try.func28 #[.agg #[.int .i64 e3,.int .i64 d7],.agg #[.int .i64 ((rd_T23 b0 h8).f0),.int .i64 ((rd_T23 b0 h8).f1)]] ?_
      with_reducible refine (numnahref07_Add.calls k2 e3 d7 ((rd_T23 b0 h8).f0) ((rd_T23 b0 h8).f1) q7 r3 _ Y2.out).mono ?_
      rintro e V6 ⟨rfl,hb⟩
      have q0:=(hb.cell (World.block_lt_of_cell? _ _ (hHeld.2.2.1))).trans (hHeld.2.2.1)
      have q1:=(hb.cell (World.block_lt_of_cell? _ _ (hHeld.2.2.2))).trans (hHeld.2.2.2)
      refine ⟨_,rfl,?_⟩
      replace b6:=rB b6 hb
      replace b9:=rB b9 hb
      replace b1:=kB b1 hb
      replace b2:=kB b2 hb
      replace HB:=bB HB hb
      (try clear hb)
      refine hz hK (fun hHeld=>?_)
      clear hK K
      refine nq 63 ?_
      refine last_ (i:=6) (N:=none) (ba 7 127) rfl rfl (by kernel_rfl) (by decide) (fun K hK=>?_)
      have Y3:V6.cell? ⟨b8,0,none⟩ = some (.int .i64 e3):=cz b2 0
      have V7:=blk_frozen b2.out 0
      have O8:=e2.out
      have O9:=i1.out
      have Y4:V6.cell? ⟨b8,1,none⟩ = some (.int .i64 d7):=cz b2 1
      have V8:=blk_frozen b2.out 1
      have P0:=e2.out
      have P1:=i1.out
      refine skip_ (w1:=?_) (by rfl) rfl ?_ ?_
      rotate_left
      ·go_simp
       rfl
      refine hK.out _ _ ?_
      clear hK K
      refine done_ (by kernel_rfl) ?_
      try go_wp2
      go_roundg k2
      case measure=>have:=p9.out;have:=O6.out;omega
      case rel=>exact ⟨(wrap64 (h8 + 1)),(q7),(r3),(by first | rfl | (simp;done) | (simp [*];done)),H',⟨by have:=p9.out;have:=O6.out;omega⟩,⟨by (with_reducible repeat (first | apply Kd.R_alloc | apply Kd.R_drewN | apply Kd.R_drew));exact Kd.R_mono (Kd.R_far (p:=⟨b8,1,none⟩) (Kd.R_far (p:=⟨b8,0,none⟩) (Kd.R_mono b6.out (fun k_ hk=>(⟨hk,hk.2.2⟩:_ ∧ k_ ≠ b8))) (fun _ hk=>hk.2) (.int .i64 q7)) (fun _ hk=>hk.2) (.int .i64 r3)) (fun _ hk=>⟨hk.1.1,⟨hk.1.2.1,hk.1.2.2⟩⟩)⟩,⟨by (with_reducible repeat (first | apply Kd.R_alloc | apply Kd.R_drewN | apply Kd.R_drew));exact Kd.R_mono (Kd.R_far (p:=⟨b8,1,none⟩) (Kd.R_far (p:=⟨b8,0,none⟩) (Kd.R_mono b9.out (fun k_ hk=>(⟨hk,hk.2.2⟩:_ ∧ k_ ≠ b8))) (fun _ hk=>hk.2) (.int .i64 q7)) (fun _ hk=>hk.2) (.int .i64 r3)) (fun _ hk=>⟨hk.1.1,⟨hk.1.2.1,hk.1.2.2⟩⟩)⟩,⟨by (with_reducible repeat (first | refine blk_drewN ?_ _ | refine blk_drew ?_ | refine blk_alloc ?_ _));refine blk_far ?_ e2.out _;(with_reducible repeat (first | refine blk_drewN ?_ _ | refine blk_drew ?_ | refine blk_alloc ?_ _));refine blk_far ?_ e2.out _;(with_reducible repeat (first | refine blk_drewN ?_ _ | refine blk_drew ?_ | refine blk_alloc ?_ _));exact b1.out⟩,⟨by (with_reducible repeat (first | refine blk_drewN ?_ _ | refine blk_drew ?_ | refine blk_alloc ?_ _));refine blk_put (cs:=#[.int .i64 q7,.int .i64 d7]) ?_ 1 _ rfl;(with_reducible repeat (first | refine blk_drewN ?_ _ | refine blk_drew ?_ | refine blk_alloc ?_ _));refine blk_put (cs:=#[.int .i64 e3,.int .i64 d7]) ?_ 0 _ rfl;(with_reducible repeat (first | refine blk_drewN ?_ _ | refine blk_drew ?_ | refine blk_alloc ?_ _));exact b2.out⟩,⟨bl HB⟩⟩
   case rest=>as_aux_lemma =>
    clear E6
    obtain ⟨kq,d1,d2,HA,n3,b6,b9,b1,b2,HB⟩:=hcut
    cases kq with
    | zero=>exact absurd HA.out (by simp [numnahlaw07_SharesFractions.j2])
    | succ R0 =>
     have H:=HA.out
     clear HA
     simp only [numnahlaw07_SharesFractions.j2] at H
     have E7:=A_ H
     clear H
     go_upto_if 65 with (fail)
     go_cut [] (fun wc=>∃ (kq:Nat),Aside0 (numnahlaw07_SharesFractions.j3 kq b0 b4 = some r) ∧ Aside0 (kq ≤ R0) ∧ Aside0 (Kd.R k23 23 wc w.heap.size (fun k_=>some k_ ≠ (n1:Value).ownBlock ∧ k_ ≠ c1 ∧ k_ ≠ b8) (.slice x0 b0.length s0) b0) ∧ Aside0 (Kd.R k23 23 wc w.heap.size (fun k_=>some k_ ≠ ((.slice x0 b0.length s0):Value).ownBlock ∧ k_ ≠ c1 ∧ k_ ≠ b8) n1 b4) ∧ Aside0 (wc.heap[c1]? = some (.cells #[.int .i64 e1,.int .i64 e4] 23 (0,0))) ∧ Aside0 (wc.heap[b8]? = some (.cells #[.int .i64 d1,.int .i64 d2] 23 (0,0))) ∧ Aside0 (Below w.heap.size w wc))
     case first=>as_aux_lemma =>
      have H:=E7.out
      clear E7
      by_cases P2:r1 = true
      case neg =>
       replace P2:=Bool.eq_false_iff.mpr P2
       subst P2
       rw [if_neg (show ¬ (false = true) by decide)] at H
       by_cases I0:(!(e1 == 0) || (!(e4 == 0))) = true
       ·rw [if_pos I0] at H
        have J5:(!(e1 == 0) || (!(e4 == 0))) = true:=I0
        clear I0
        exact absurd ((Option.some.inj H).trans HRT.out) (by decide)
       rw [if_neg I0] at H
       have J5:(!(e1 == 0) || (!(e4 == 0))) = false:=by simpa using I0
       clear I0
       by_cases E8:h9 = 2
       case neg =>
        rw [if_neg E8] at H
        have J6:(h9 == 2) = false:=beq_eq_false_iff_ne.mpr E8
        have J7:(h9 != 2) = true:=bne_iff_ne.mpr E8
        exact absurd ((Option.some.inj H).trans HRT.out) (by decide)
       rw [if_pos E8] at H
       have J6:(h9 == 2) = true:=beq_iff_eq.mpr E8
       have J7:(h9 != 2) = false:=bne_eq_false_iff_eq.mpr E8
       clear E8
       by_cases D5:(b4.length:Int) = 0
       case neg =>
        rw [if_neg D5] at H
        have J8:((b4.length:Int) == 0) = false:=beq_eq_false_iff_ne.mpr D5
        have J9:((b4.length:Int) != 0) = true:=bne_iff_ne.mpr D5
        have V9:¬ (b4 = []):=fun h_=>D5 (by rw [h_];rfl)
        exact absurd ((Option.some.inj H).trans HRT.out) (by decide)
       rw [if_pos D5] at H
       have J8:((b4.length:Int) == 0) = true:=beq_iff_eq.mpr D5
       have J9:((b4.length:Int) != 0) = false:=bne_eq_false_iff_eq.mpr D5
       clear D5
       by_cases E9:i0 = 2
       case neg =>
        rw [if_neg E9] at H
        have K0:(i0 == 2) = false:=beq_eq_false_iff_ne.mpr E9
        have K1:(i0 != 2) = true:=bne_iff_ne.mpr E9
        exact absurd ((Option.some.inj H).trans HRT.out) (by decide)
       rw [if_pos E9] at H
       have K0:(i0 == 2) = true:=beq_iff_eq.mpr E9
       have K1:(i0 != 2) = false:=bne_eq_false_iff_eq.mpr E9
       clear E9
       have H':=A_ H
       clear H
       have W0:=e2.out
       have W1:=i1.out
       have P3:wc.cell? ⟨c1,0,none⟩ = some (.int .i64 e1):=cz b1 0
       have P4:wc.cell? ⟨c1,1,none⟩ = some (.int .i64 e4):=cz b1 1
       have P5:=blk_frozen b1.out 0
       have P6:=blk_frozen b1.out 1
       obtain ⟨Y5,Y6,R1⟩:=Kd.R_slice b9.out
       subst R1
       go_wp2
       go_meet
       case rel=>exact ⟨_,H',⟨by have:=p9.out;have:=n3.out;first | omega | exact Nat.le_refl _⟩,⟨by (with_reducible repeat (first | apply Kd.R_alloc | apply Kd.R_drewN | apply Kd.R_drew));exact b6.out⟩,⟨by (with_reducible repeat (first | apply Kd.R_alloc | apply Kd.R_drewN | apply Kd.R_drew));exact b9.out⟩,⟨by (with_reducible repeat (first | refine blk_drewN ?_ _ | refine blk_drew ?_ | refine blk_alloc ?_ _));exact b1.out⟩,⟨by (with_reducible repeat (first | refine blk_drewN ?_ _ | refine blk_drew ?_ | refine blk_alloc ?_ _));exact b2.out⟩,⟨bl HB⟩⟩
      subst P2
      rw [if_pos rfl] at H
      by_cases I1:(!(e1 == d1) || (!(e4 == d2))) = true
      ·rw [if_pos I1] at H
       have r6:(!(e1 == d1) || (!(e4 == d2))) = true:=I1
       clear I1
       (first | rw [r6] | (simp only [i64_w,i32_w];rw [r6]) | skip)
       exact absurd ((Option.some.inj H).trans HRT.out) (by decide)
      rw [if_neg I1] at H
      have r6:(!(e1 == d1) || (!(e4 == d2))) = false:=by simpa using I1
      clear I1
      (first | rw [r6] | (simp only [i64_w,i32_w];rw [r6]) | skip)
      by_cases F0:h9 = 0
      case neg =>
       rw [if_neg F0] at H
       have K2:(h9 == 0) = false:=beq_eq_false_iff_ne.mpr F0
       have K3:(h9 != 0) = true:=bne_iff_ne.mpr F0
       exact absurd ((Option.some.inj H).trans HRT.out) (by decide)
      rw [if_pos F0] at H
      have K2:(h9 == 0) = true:=beq_iff_eq.mpr F0
      have K3:(h9 != 0) = false:=bne_eq_false_iff_eq.mpr F0
      clear F0
      by_cases z2:(b4.length:Int) = (b0.length:Int)
      case neg =>
       rw [if_neg z2] at H
       have K4:((b4.length:Int) == (b0.length:Int)) = false:=beq_eq_false_iff_ne.mpr z2
       have K5:((b4.length:Int) != (b0.length:Int)) = true:=bne_iff_ne.mpr z2
       have K6:(b4.length == b0.length) = false:=by first | simpa using z2 | (simp at z2 ⊢;omega)
       exact absurd ((Option.some.inj H).trans HRT.out) (by decide)
      rw [if_pos z2] at H
      have K4:((b4.length:Int) == (b0.length:Int)) = true:=beq_iff_eq.mpr z2
      have K5:((b4.length:Int) != (b0.length:Int)) = false:=bne_eq_false_iff_eq.mpr z2
      have K6:(b4.length == b0.length) = true:=by first | simpa using z2 | (simp at z2 ⊢;omega)
      clear z2
      by_cases F1:i0 = 0
      case neg =>
       rw [if_neg F1] at H
       have K7:(i0 == 0) = false:=beq_eq_false_iff_ne.mpr F1
       have K8:(i0 != 0) = true:=bne_iff_ne.mpr F1
       exact absurd ((Option.some.inj H).trans HRT.out) (by decide)
      rw [if_pos F1] at H
      have K7:(i0 == 0) = true:=beq_iff_eq.mpr F1
      have K8:(i0 != 0) = false:=bne_eq_false_iff_eq.mpr F1
      clear F1
      have H':=A_ H
      clear H
      have W2:=e2.out
      have W3:=i1.out
      have P7:wc.cell? ⟨c1,0,none⟩ = some (.int .i64 e1):=cz b1 0
      have P8:wc.cell? ⟨c1,1,none⟩ = some (.int .i64 e4):=cz b1 1
      have P9:=blk_frozen b1.out 0
      have Q0:=blk_frozen b1.out 1
      have Q1:wc.cell? ⟨b8,0,none⟩ = some (.int .i64 d1):=cz b2 0
      have Q2:wc.cell? ⟨b8,1,none⟩ = some (.int .i64 d2):=cz b2 1
      have Q3:=blk_frozen b2.out 0
      have Q4:=blk_frozen b2.out 1
      obtain ⟨Y7,Y8,R2⟩:=Kd.R_slice b9.out
      subst R2
      go_wp2
      go_meet
      case rel=>exact ⟨_,H',⟨by have:=p9.out;have:=n3.out;first | omega | exact Nat.le_refl _⟩,⟨by (with_reducible repeat (first | apply Kd.R_alloc | apply Kd.R_drewN | apply Kd.R_drew));exact b6.out⟩,⟨by (with_reducible repeat (first | apply Kd.R_alloc | apply Kd.R_drewN | apply Kd.R_drew));exact b9.out⟩,⟨by (with_reducible repeat (first | refine blk_drewN ?_ _ | refine blk_drew ?_ | refine blk_alloc ?_ _));exact b1.out⟩,⟨by (with_reducible repeat (first | refine blk_drewN ?_ _ | refine blk_drew ?_ | refine blk_alloc ?_ _));exact b2.out⟩,⟨bl HB⟩⟩
     case rest=>as_aux_lemma =>
      clear E7
      obtain ⟨kq,HA,n9,b6,b9,b1,b2,HB⟩:=hcut
      cases kq with
      | zero=>exact absurd HA.out (by simp [numnahlaw07_SharesFractions.j3])
      | succ K9 =>
       have H:=HA.out
       clear HA
       simp only [numnahlaw07_SharesFractions.j3] at H
       have H':=A_ H
       clear H
       go_wp2
       go_loopg [12] K9 (fun kq Y9 w'=>∃ (b3:Int),Y9 = .int .i64 b3 ∧ Aside0 (numnahlaw07_SharesFractions.l2 kq b0 b4 b3 = some r) ∧ Aside0 (kq ≤ K9) ∧ Aside0 (Kd.R k23 23 w' w.heap.size (fun k_=>some k_ ≠ (n1:Value).ownBlock ∧ k_ ≠ c1 ∧ k_ ≠ b8) (.slice x0 b0.length s0) b0) ∧ Aside0 (Kd.R k23 23 w' w.heap.size (fun k_=>some k_ ≠ ((.slice x0 b0.length s0):Value).ownBlock ∧ k_ ≠ c1 ∧ k_ ≠ b8) n1 b4) ∧ Aside0 (w'.heap[c1]? = some (.cells #[.int .i64 e1,.int .i64 e4] 23 (0,0))) ∧ Aside0 (w'.heap[b8]? = some (.cells #[.int .i64 d1,.int .i64 d2] 23 (0,0))) ∧ Aside0 (Below w.heap.size w w'))
       case atStart=>exact ⟨(0),(by first | rfl | (simp;done) | (simp [*];done)),H',⟨Nat.le_refl _⟩,⟨by (with_reducible repeat (first | apply Kd.R_alloc | apply Kd.R_drewN | apply Kd.R_drew));exact b6.out⟩,⟨by (with_reducible repeat (first | apply Kd.R_alloc | apply Kd.R_drewN | apply Kd.R_drew));exact b9.out⟩,⟨by (with_reducible repeat (first | refine blk_drewN ?_ _ | refine blk_drew ?_ | refine blk_alloc ?_ _));exact b1.out⟩,⟨by (with_reducible repeat (first | refine blk_drewN ?_ _ | refine blk_drew ?_ | refine blk_alloc ?_ _));exact b2.out⟩,⟨bl HB⟩⟩
       case round=>as_aux_lemma =>
        clear H'
        obtain ⟨b3,rfl,HA,x1,b6,b9,b1,b2,HB⟩:=hrel
        cases gk with
        | zero=>exact absurd HA.out (by simp [numnahlaw07_SharesFractions.l2])
        | succ k4 =>
         have H:=HA.out
         clear HA
         simp only [numnahlaw07_SharesFractions.l2] at H
         by_cases I2:b3 < (b4.length:Int)
         ·rw [if_pos I2] at H
          have L0:=decide_eq_true I2
          clear I2
          have H':=A_ H
          clear H
          obtain ⟨L1,L2,R3⟩:=Kd.R_slice b9.out
          subst R3
          go_wp2
          go_loopg [13,14,15] k4 (fun kq Z0 Z1 Z2 w'=>∃ (j7:Int) (j8:Int) (b5:Int),Z0 = .int .i64 j7 ∧ Z1 = .int .i64 j8 ∧ Z2 = .int .i64 b5 ∧ Aside0 (numnahlaw07_SharesFractions.l3 kq b0 b4 b3 j7 j8 b5 = some r) ∧ Aside0 (kq ≤ k4) ∧ Aside0 (Kd.R k23 23 w' w.heap.size (fun k_=>some k_ ≠ ((.slice L1 b4.length L2):Value).ownBlock ∧ k_ ≠ c1 ∧ k_ ≠ b8) (.slice x0 b0.length s0) b0) ∧ Aside0 (Kd.R k23 23 w' w.heap.size (fun k_=>some k_ ≠ ((.slice x0 b0.length s0):Value).ownBlock ∧ k_ ≠ c1 ∧ k_ ≠ b8) (.slice L1 b4.length L2) b4) ∧ Aside0 (w'.heap[c1]? = some (.cells #[.int .i64 e1,.int .i64 e4] 23 (0,0))) ∧ Aside0 (w'.heap[b8]? = some (.cells #[.int .i64 d1,.int .i64 d2] 23 (0,0))) ∧ Aside0 (Below w.heap.size w w'))
          case atStart=>exact ⟨(0),(0),(0),(by first | rfl | (simp;done) | (simp [*];done)),(by first | rfl | (simp;done) | (simp [*];done)),(by first | rfl | (simp;done) | (simp [*];done)),H',⟨Nat.le_refl _⟩,⟨by (with_reducible repeat (first | apply Kd.R_alloc | apply Kd.R_drewN | apply Kd.R_drew));exact b6.out⟩,⟨by (with_reducible repeat (first | apply Kd.R_alloc | apply Kd.R_drewN | apply Kd.R_drew));exact b9.out⟩,⟨by (with_reducible repeat (first | refine blk_drewN ?_ _ | refine blk_drew ?_ | refine blk_alloc ?_ _));exact b1.out⟩,⟨by (with_reducible repeat (first | refine blk_drewN ?_ _ | refine blk_drew ?_ | refine blk_alloc ?_ _));exact b2.out⟩,⟨bl HB⟩⟩
          case round=>as_aux_lemma =>
           clear H'
           obtain ⟨j7,j8,b5,rfl,rfl,rfl,HA,C3,b6,b9,b1,b2,HB⟩:=hrel
           cases gk with
           | zero=>exact absurd HA.out (by simp [numnahlaw07_SharesFractions.l3])
           | succ k5 =>
            have H:=HA.out
            clear HA
            simp only [numnahlaw07_SharesFractions.l3] at H
            by_cases I3:b5 < (b0.length:Int)
            case neg =>
             rw [if_neg I3] at H
             have L3:=decide_eq_false I3
             clear I3
             by_cases I4:b3 < j7
             ·rw [if_pos I4] at H
              have L4:=decide_eq_true I4
              clear I4
              exact absurd ((Option.some.inj H).trans HRT.out) (by decide)
             rw [if_neg I4] at H
             have L4:=decide_eq_false I4
             clear I4
             by_cases I5:b3 ≥ (wrap64 (j7 + j8))
             ·rw [if_pos I5] at H
              have L5:=decide_eq_true I5
              clear I5
              exact absurd ((Option.some.inj H).trans HRT.out) (by decide)
             rw [if_neg I5] at H
             have L5:=decide_eq_false I5
             clear I5
             have H':=A_ H
             clear H
             go_wp2
             go_roundg k5
             case measure=>have:=p9.out;have:=n3.out;have:=n9.out;have:=x1.out;have:=C3.out;omega
             case rel=>exact ⟨(wrap64 (b3 + 1)),(by first | rfl | (simp;done) | (simp [*];done)),H',⟨by have:=p9.out;have:=n3.out;have:=n9.out;have:=x1.out;have:=C3.out;omega⟩,⟨by (with_reducible repeat (first | apply Kd.R_alloc | apply Kd.R_drewN | apply Kd.R_drew));exact b6.out⟩,⟨by (with_reducible repeat (first | apply Kd.R_alloc | apply Kd.R_drewN | apply Kd.R_drew));exact b9.out⟩,⟨by (with_reducible repeat (first | refine blk_drewN ?_ _ | refine blk_drew ?_ | refine blk_alloc ?_ _));exact b1.out⟩,⟨by (with_reducible repeat (first | refine blk_drewN ?_ _ | refine blk_drew ?_ | refine blk_alloc ?_ _));exact b2.out⟩,⟨bl HB⟩⟩
            rw [if_pos I3] at H
            have L3:=decide_eq_true I3
            clear I3
            replace H:=gd H
            obtain ⟨W4,H⟩:=H
            have W5:=decide_eq_true W4
            clear W4
            replace H:=gd H
            obtain ⟨W6,H⟩:=H
            have W7:=decide_eq_true W6
            clear W6
            replace H:=gd H
            obtain ⟨W8,H⟩:=H
            have W9:=decide_eq_true W8
            clear W8
            by_cases z3:(((rd_T23 b0 b5).f0) == ((rd_T23 b4 b3).f0) && (((rd_T23 b0 b5).f1) == ((rd_T23 b4 b3).f1))) = true
            ·rw [if_pos z3] at H
             have L6:(((rd_T23 b0 b5).f0) == ((rd_T23 b4 b3).f0) && (((rd_T23 b0 b5).f1) == ((rd_T23 b4 b3).f1))) = true:=z3
             (try (have L7:decide (((rd_T23 b0 b5).f0) = ((rd_T23 b4 b3).f0) && (((rd_T23 b0 b5).f1) == ((rd_T23 b4 b3).f1))) = true:=by simpa using z3))
             (try (have L8:(((rd_T23 b0 b5).f0) == ((rd_T23 b4 b3).f0) && (((rd_T23 b0 b5).f1) == ((rd_T23 b4 b3).f1))) = true:=by simpa using z3))
             clear z3
             have H':=A_ H
             clear H
             try go_wp2
             replace b6:=rD b6
             replace b9:=rD b9
             replace b1:=kD b1
             replace b2:=kD b2
             replace HB:=bD HB
             have i5:0 ≤ (b5:Int):=of_decide_eq_true (by first | (with_reducible assumption) | assumption)
             have i6:b5 < (b0.length:Int):=of_decide_eq_true (by first | (with_reducible assumption) | assumption)
             obtain ⟨d8,o2,e6,e7⟩:=at_T23 (Kd.R_reads' b6.out).2.2 b5 i5 i6
             cases o2
             replace i5:=eq_true i5
             replace i6:=eq_true i6
             have i7:0 ≤ (b3:Int):=of_decide_eq_true (by first | (with_reducible assumption) | assumption)
             have i8:b3 < (b4.length:Int):=of_decide_eq_true (by first | (with_reducible assumption) | assumption)
             obtain ⟨d0,o3,e8,e9⟩:=at_T23 (Kd.R_reads' b9.out).2.2 b3 i7 i8
             cases o3
             replace i7:=eq_true i7
             replace i8:=eq_true i8
             refine start_ (n:=9) (S:=fun w'=>w'.cell? (d8.add ((b5).toNat * 2)) = some (.int .i64 ((rd_T23 b0 b5).f0)) ∧ w'.cell? ⟨(d8.add ((b5).toNat * 2)).block,(d8.add ((b5).toNat * 2)).off + 1,none⟩ = some (.int .i64 ((rd_T23 b0 b5).f1)) ∧ w'.cell? (d0.add ((b3).toNat * 2)) = some (.int .i64 ((rd_T23 b4 b3).f0)) ∧ w'.cell? ⟨(d0.add ((b3).toNat * 2)).block,(d0.add ((b3).toNat * 2)).off + 1,none⟩ = some (.int .i64 ((rd_T23 b4 b3).f1))) (ds:=[]) (ba 9 0) (by kernel_rfl) rfl rfl ⟨e6,e7,e8,e9⟩ (fun hHeld=>?_);refine with_tabW numnahlaw07_SharesFractions.tab26 numnahlaw07_SharesFractions.bits26 (fun HT_ HW_=>?_)
             generalize wr.drew = w78 at b6 b9 b1 b2 HB e6 e7 e8 e9 hHeld ⊢
             refine pq 0 112 1 HT_ ?_
             refine pq 1 113 3 HT_ ?_
             refine pq 2 114 7 HT_ ?_
             refine pq 4 116 23 HT_ ?_
             refine pq 5 117 55 HT_ ?_
             refine pq 6 118 119 HT_ ?_
             refine tq 3 115 127 HT_ HW_ hHeld ?_
             refine tq 7 119 255 HT_ HW_ hHeld ?_
             refine pq 8 120 511 HT_ ?_
             refine done_ (done_of HT_.out (by kernel_rfl)) ?_
             try go_wp2
             go_roundg k5
             case measure=>have:=p9.out;have:=n3.out;have:=n9.out;have:=x1.out;have:=C3.out;omega
             case rel=>exact ⟨(j7),(wrap64 (j8 + 1)),(wrap64 (b5 + 1)),(by first | rfl | (simp;done) | (simp [*];done)),(by first | rfl | (simp;done) | (simp [*];done)),(by first | rfl | (simp;done) | (simp [*];done)),H',⟨by have:=p9.out;have:=n3.out;have:=n9.out;have:=x1.out;have:=C3.out;omega⟩,⟨by (with_reducible repeat (first | apply Kd.R_alloc | apply Kd.R_drewN | apply Kd.R_drew));exact b6.out⟩,⟨by (with_reducible repeat (first | apply Kd.R_alloc | apply Kd.R_drewN | apply Kd.R_drew));exact b9.out⟩,⟨by (with_reducible repeat (first | refine blk_drewN ?_ _ | refine blk_drew ?_ | refine blk_alloc ?_ _));exact b1.out⟩,⟨by (with_reducible repeat (first | refine blk_drewN ?_ _ | refine blk_drew ?_ | refine blk_alloc ?_ _));exact b2.out⟩,⟨bl HB⟩⟩
            rw [if_neg z3] at H
            have L6:(((rd_T23 b0 b5).f0) == ((rd_T23 b4 b3).f0) && (((rd_T23 b0 b5).f1) == ((rd_T23 b4 b3).f1))) = false:=by simpa using z3
            (try (have L7:decide (((rd_T23 b0 b5).f0) = ((rd_T23 b4 b3).f0) && (((rd_T23 b0 b5).f1) == ((rd_T23 b4 b3).f1))) = false:=by simpa using z3))
            (try (have L8:(((rd_T23 b0 b5).f0) == ((rd_T23 b4 b3).f0) && (((rd_T23 b0 b5).f1) == ((rd_T23 b4 b3).f1))) = false:=by simpa using z3))
            (try (have X0:¬ (((rd_T23 b0 b5).f0) = ((rd_T23 b4 b3).f0) && (((rd_T23 b0 b5).f1) == ((rd_T23 b4 b3).f1))):=by simpa using z3))
            clear z3
            replace H:=Option.bind_eq_some_iff.mp H
            obtain ⟨t7,L9,H⟩:=H
            replace H:(if t7 = true then ((numnahref07_Less.f ((rd_T23 b0 b5).f0) ((rd_T23 b0 b5).f1) ((rd_T23 b4 b3).f0) ((rd_T23 b4 b3).f1)).bind fun q4=>(if q4 = true then (numnahlaw07_SharesFractions.l3 k5 b0 b4 b3 (wrap64 (j7 + 1)) j8 (wrap64 (b5 + 1))) else (numnahlaw07_SharesFractions.l3 k5 b0 b4 b3 j7 j8 (wrap64 (b5 + 1))))) else (numnahlaw07_SharesFractions.l3 k5 b0 b4 b3 j7 j8 (wrap64 (b5 + 1)))) = some r:=H
            have R4:=A_ L9
            clear L9
            by_cases Q5:t7 = true
            case neg =>
             replace Q5:=Bool.eq_false_iff.mpr Q5
             subst Q5
             rw [if_neg (show ¬ (false = true) by decide)] at H
             have H':=A_ H
             clear H
             try go_wp2
             replace b6:=rD b6
             replace b9:=rD b9
             replace b1:=kD b1
             replace b2:=kD b2
             replace HB:=bD HB
             have i5:0 ≤ (b5:Int):=of_decide_eq_true (by first | (with_reducible assumption) | assumption)
             have i6:b5 < (b0.length:Int):=of_decide_eq_true (by first | (with_reducible assumption) | assumption)
             obtain ⟨d8,o2,e6,e7⟩:=at_T23 (Kd.R_reads' b6.out).2.2 b5 i5 i6
             cases o2
             replace i5:=eq_true i5
             replace i6:=eq_true i6
             have i7:0 ≤ (b3:Int):=of_decide_eq_true (by first | (with_reducible assumption) | assumption)
             have i8:b3 < (b4.length:Int):=of_decide_eq_true (by first | (with_reducible assumption) | assumption)
             obtain ⟨d0,o3,e8,e9⟩:=at_T23 (Kd.R_reads' b9.out).2.2 b3 i7 i8
             cases o3
             replace i7:=eq_true i7
             replace i8:=eq_true i8
             refine start_ (n:=9) (S:=fun w'=>w'.cell? (d8.add ((b5).toNat * 2)) = some (.int .i64 ((rd_T23 b0 b5).f0)) ∧ w'.cell? ⟨(d8.add ((b5).toNat * 2)).block,(d8.add ((b5).toNat * 2)).off + 1,none⟩ = some (.int .i64 ((rd_T23 b0 b5).f1)) ∧ w'.cell? (d0.add ((b3).toNat * 2)) = some (.int .i64 ((rd_T23 b4 b3).f0)) ∧ w'.cell? ⟨(d0.add ((b3).toNat * 2)).block,(d0.add ((b3).toNat * 2)).off + 1,none⟩ = some (.int .i64 ((rd_T23 b4 b3).f1))) (ds:=[]) (ba 9 0) (by kernel_rfl) rfl rfl ⟨e6,e7,e8,e9⟩ (fun hHeld=>?_);refine with_tabW numnahlaw07_SharesFractions.tab26 numnahlaw07_SharesFractions.bits26 (fun HT_ HW_=>?_)
             generalize wr.drew = Z3 at b6 b9 b1 b2 HB e6 e7 e8 e9 hHeld ⊢
             refine pq 0 112 1 HT_ ?_
             refine pq 1 113 3 HT_ ?_
             refine pq 2 114 7 HT_ ?_
             refine pq 4 116 23 HT_ ?_
             refine pq 5 117 55 HT_ ?_
             refine pq 6 118 119 HT_ ?_
             refine tq 3 115 127 HT_ HW_ hHeld ?_
             refine tq 7 119 255 HT_ HW_ hHeld ?_
             refine pq 8 120 511 HT_ ?_
             refine done_ (done_of HT_.out (by kernel_rfl)) ?_
             try go_wp2
             replace b6:=rD b6
             replace b9:=rD b9
             replace b1:=kD b1
             replace b2:=kD b2
             replace HB:=bD HB
             have l7:0 ≤ (b3:Int):=of_decide_eq_true (by first | (with_reducible assumption) | assumption)
             have l8:b3 < (b4.length:Int):=of_decide_eq_true (by first | (with_reducible assumption) | assumption)
             obtain ⟨o4,r7,i2,i3⟩:=at_T23 (Kd.R_reads' b9.out).2.2 b3 l7 l8
             obtain rfl:d0 = o4:=(by injection r7)
             replace l7:=eq_true l7
             replace l8:=eq_true l8
             refine start_ (n:=16) (S:=fun w'=>w'.cell? (d0.add ((b3).toNat * 2)) = some (.int .i64 ((rd_T23 b4 b3).f0)) ∧ w'.cell? ⟨(d0.add ((b3).toNat * 2)).block,(d0.add ((b3).toNat * 2)).off + 1,none⟩ = some (.int .i64 ((rd_T23 b4 b3).f1))) (ds:=[]) (ba 16 0) (by kernel_rfl) rfl rfl ⟨i2,i3⟩ (fun hHeld=>?_);refine with_tabW numnahlaw07_SharesFractions.tab28 numnahlaw07_SharesFractions.bits28 (fun HT_ HW_=>?_)
             generalize Z3.drew = w92 at b6 b9 b1 b2 HB i2 i3 hHeld ⊢
             refine pq 0 123 1 HT_ ?_
             refine pq 1 124 3 HT_ ?_
             refine pq 2 125 7 HT_ ?_
             refine tq 3 126 15 HT_ HW_ hHeld ?_
             refine oq 4 127 31 HT_ (fun K hK=>?_)
             refine gq Try.func50 #[.agg #[.int .i64 ((rd_T23 b4 b3).f0),.int .i64 ((rd_T23 b4 b3).f1)]] ?_
             with_reducible refine (numnahref07_Small.calls k5 ((rd_T23 b4 b3).f0) ((rd_T23 b4 b3).f1) false _ R4.out).mono ?_
             rintro e w93 ⟨rfl,hb⟩
             have q2:=(hb.cell (World.block_lt_of_cell? _ _ (hHeld.1))).trans (hHeld.1)
             have q3:=(hb.cell (World.block_lt_of_cell? _ _ (hHeld.2))).trans (hHeld.2)
             refine ⟨_,rfl,?_⟩
             replace b6:=rB b6 hb
             replace b9:=rB b9 hb
             replace b1:=kB b1 hb
             replace b2:=kB b2 hb
             replace HB:=bB HB hb
             (try clear hb)
             refine hz hK (fun hHeld=>?_)
             clear hK K
             refine nq 127 ?_
             refine pq 5 128 63 HT_ ?_
             refine pu 6 129 127 HT_ ?_
             refine pu 7 130 255 HT_ ?_
             refine pu 8 131 511 HT_ ?_
             refine pu 9 132 1023 HT_ ?_
             refine pu 10 133 2047 HT_ ?_
             refine pu 11 134 4095 HT_ ?_
             refine pu 12 135 8191 HT_ ?_
             refine pu 13 136 16383 HT_ ?_
             refine pu 14 137 32767 HT_ ?_
             refine pq 15 138 65535 HT_ ?_
             refine done_ (done_of HT_.out (by kernel_rfl)) ?_
             try go_wp2
             go_roundg k5
             case measure=>have:=p9.out;have:=n3.out;have:=n9.out;have:=x1.out;have:=C3.out;omega
             case rel=>exact ⟨(j7),(j8),(wrap64 (b5 + 1)),(by first | rfl | (simp;done) | (simp [*];done)),(by first | rfl | (simp;done) | (simp [*];done)),(by first | rfl | (simp;done) | (simp [*];done)),H',⟨by have:=p9.out;have:=n3.out;have:=n9.out;have:=x1.out;have:=C3.out;omega⟩,⟨by (with_reducible repeat (first | apply Kd.R_alloc | apply Kd.R_drewN | apply Kd.R_drew));exact b6.out⟩,⟨by (with_reducible repeat (first | apply Kd.R_alloc | apply Kd.R_drewN | apply Kd.R_drew));exact b9.out⟩,⟨by (with_reducible repeat (first | refine blk_drewN ?_ _ | refine blk_drew ?_ | refine blk_alloc ?_ _));exact b1.out⟩,⟨by (with_reducible repeat (first | refine blk_drewN ?_ _ | refine blk_drew ?_ | refine blk_alloc ?_ _));exact b2.out⟩,⟨bl HB⟩⟩
            subst Q5
            rw [if_pos rfl] at H
            replace H:=Option.bind_eq_some_iff.mp H
            obtain ⟨q4,M0,H⟩:=H
            replace H:(if q4 = true then (numnahlaw07_SharesFractions.l3 k5 b0 b4 b3 (wrap64 (j7 + 1)) j8 (wrap64 (b5 + 1))) else (numnahlaw07_SharesFractions.l3 k5 b0 b4 b3 j7 j8 (wrap64 (b5 + 1)))) = some r:=H
            have X1:=A_ M0
            clear M0
            by_cases Q6:q4 = true
            ·subst Q6
             rw [if_pos rfl] at H
             have H':=A_ H
             clear H
             try go_wp2
             replace b6:=rD b6
             replace b9:=rD b9
             replace b1:=kD b1
             replace b2:=kD b2
             replace HB:=bD HB
             have i5:0 ≤ (b5:Int):=of_decide_eq_true (by first | (with_reducible assumption) | assumption)
             have i6:b5 < (b0.length:Int):=of_decide_eq_true (by first | (with_reducible assumption) | assumption)
             obtain ⟨d8,o2,e6,e7⟩:=at_T23 (Kd.R_reads' b6.out).2.2 b5 i5 i6
             cases o2
             replace i5:=eq_true i5
             replace i6:=eq_true i6
             have i7:0 ≤ (b3:Int):=of_decide_eq_true (by first | (with_reducible assumption) | assumption)
             have i8:b3 < (b4.length:Int):=of_decide_eq_true (by first | (with_reducible assumption) | assumption)
             obtain ⟨d0,o3,e8,e9⟩:=at_T23 (Kd.R_reads' b9.out).2.2 b3 i7 i8
             cases o3
             replace i7:=eq_true i7
             replace i8:=eq_true i8
             refine start_ (n:=9) (S:=fun w'=>w'.cell? (d8.add ((b5).toNat * 2)) = some (.int .i64 ((rd_T23 b0 b5).f0)) ∧ w'.cell? ⟨(d8.add ((b5).toNat * 2)).block,(d8.add ((b5).toNat * 2)).off + 1,none⟩ = some (.int .i64 ((rd_T23 b0 b5).f1)) ∧ w'.cell? (d0.add ((b3).toNat * 2)) = some (.int .i64 ((rd_T23 b4 b3).f0)) ∧ w'.cell? ⟨(d0.add ((b3).toNat * 2)).block,(d0.add ((b3).toNat * 2)).off + 1,none⟩ = some (.int .i64 ((rd_T23 b4 b3).f1))) (ds:=[]) (ba 9 0) (by kernel_rfl) rfl rfl ⟨e6,e7,e8,e9⟩ (fun hHeld=>?_);refine with_tabW numnahlaw07_SharesFractions.tab26 numnahlaw07_SharesFractions.bits26 (fun HT_ HW_=>?_)
             generalize wr.drew = Z4 at b6 b9 b1 b2 HB e6 e7 e8 e9 hHeld ⊢
             refine pq 0 112 1 HT_ ?_
             refine pq 1 113 3 HT_ ?_
             refine pq 2 114 7 HT_ ?_
             refine pq 4 116 23 HT_ ?_
             refine pq 5 117 55 HT_ ?_
             refine pq 6 118 119 HT_ ?_
             refine tq 3 115 127 HT_ HW_ hHeld ?_
             refine tq 7 119 255 HT_ HW_ hHeld ?_
             refine pq 8 120 511 HT_ ?_
             refine done_ (done_of HT_.out (by kernel_rfl)) ?_
             try go_wp2
             replace b6:=rD b6
             replace b9:=rD b9
             replace b1:=kD b1
             replace b2:=kD b2
             replace HB:=bD HB
             have l7:0 ≤ (b3:Int):=of_decide_eq_true (by first | (with_reducible assumption) | assumption)
             have l8:b3 < (b4.length:Int):=of_decide_eq_true (by first | (with_reducible assumption) | assumption)
             obtain ⟨o4,r7,i2,i3⟩:=at_T23 (Kd.R_reads' b9.out).2.2 b3 l7 l8
             obtain rfl:d0 = o4:=(by injection r7)
             replace l7:=eq_true l7
             replace l8:=eq_true l8
             have o5:0 ≤ (b5:Int):=of_decide_eq_true (by first | (with_reducible assumption) | assumption)
             have o6:b5 < (b0.length:Int):=of_decide_eq_true (by first | (with_reducible assumption) | assumption)
             obtain ⟨s2,z4,l9,m0⟩:=at_T23 (Kd.R_reads' b6.out).2.2 b5 o5 o6
             obtain rfl:d8 = s2:=(by injection z4)
             replace o5:=eq_true o5
             replace o6:=eq_true o6
             have o7:0 ≤ (b3:Int):=of_decide_eq_true (by first | (with_reducible assumption) | assumption)
             have o8:b3 < (b4.length:Int):=of_decide_eq_true (by first | (with_reducible assumption) | assumption)
             obtain ⟨s3,z5,m1,m2⟩:=at_T23 (Kd.R_reads' b9.out).2.2 b3 o7 o8
             obtain rfl:d0 = s3:=(by injection z5)
             replace o7:=eq_true o7
             replace o8:=eq_true o8
             refine start_ (n:=16) (S:=fun w'=>w'.cell? (d0.add ((b3).toNat * 2)) = some (.int .i64 ((rd_T23 b4 b3).f0)) ∧ w'.cell? ⟨(d0.add ((b3).toNat * 2)).block,(d0.add ((b3).toNat * 2)).off + 1,none⟩ = some (.int .i64 ((rd_T23 b4 b3).f1)) ∧ w'.cell? (d8.add ((b5).toNat * 2)) = some (.int .i64 ((rd_T23 b0 b5).f0)) ∧ w'.cell? ⟨(d8.add ((b5).toNat * 2)).block,(d8.add ((b5).toNat * 2)).off + 1,none⟩ = some (.int .i64 ((rd_T23 b0 b5).f1)) ∧ w'.cell? (d0.add ((b3).toNat * 2)) = some (.int .i64 ((rd_T23 b4 b3).f0)) ∧ w'.cell? ⟨(d0.add ((b3).toNat * 2)).block,(d0.add ((b3).toNat * 2)).off + 1,none⟩ = some (.int .i64 ((rd_T23 b4 b3).f1))) (ds:=[]) (ba 16 0) (by kernel_rfl) rfl rfl ⟨i2,i3,l9,m0,m1,m2⟩ (fun hHeld=>?_);refine with_tabW numnahlaw07_SharesFractions.tab28 numnahlaw07_SharesFractions.bits28 (fun HT_ HW_=>?_)
             generalize Z4.drew = w84 at b6 b9 b1 b2 HB i2 i3 l9 m0 m1 m2 hHeld ⊢
             refine pq 0 123 1 HT_ ?_
             refine pq 1 124 3 HT_ ?_
             refine pq 2 125 7 HT_ ?_
             refine tq 3 126 15 HT_ HW_ hHeld ?_
             refine oq 4 127 31 HT_ (fun K hK=>?_)
             refine gq Try.func50 #[.agg #[.int .i64 ((rd_T23 b4 b3).f0),.int .i64 ((rd_T23 b4 b3).f1)]] ?_
             with_reducible refine (numnahref07_Small.calls k5 ((rd_T23 b4 b3).f0) ((rd_T23 b4 b3).f1) true _ R4.out).mono ?_
             rintro e w85 ⟨rfl,hb⟩
             have q2:=(hb.cell (World.block_lt_of_cell? _ _ (hHeld.1))).trans (hHeld.1)
             have q3:=(hb.cell (World.block_lt_of_cell? _ _ (hHeld.2.1))).trans (hHeld.2.1)
             have q0:=(hb.cell (World.block_lt_of_cell? _ _ (hHeld.2.2.1))).trans (hHeld.2.2.1)
             have q1:=(hb.cell (World.block_lt_of_cell? _ _ (hHeld.2.2.2.1))).trans (hHeld.2.2.2.1)
             have F2:=(hb.cell (World.block_lt_of_cell? _ _ (hHeld.2.2.2.2.1))).trans (hHeld.2.2.2.2.1)
             have F3:=(hb.cell (World.block_lt_of_cell? _ _ (hHeld.2.2.2.2.2))).trans (hHeld.2.2.2.2.2)
             refine ⟨_,rfl,?_⟩
             replace b6:=rB b6 hb
             replace b9:=rB b9 hb
             replace b1:=kB b1 hb
             replace b2:=kB b2 hb
             replace HB:=bB HB hb
             (try clear hb)
             refine hz hK (fun hHeld=>?_)
             clear hK K
             refine nq 127 ?_
             refine pq 5 128 63 HT_ ?_
             refine pq 6 129 127 HT_ ?_
             refine pq 7 130 255 HT_ ?_
             refine pq 8 131 511 HT_ ?_
             refine pq 10 133 1535 HT_ ?_
             refine pq 11 134 3583 HT_ ?_
             refine pq 12 135 7679 HT_ ?_
             refine tq 9 132 8191 HT_ HW_ hHeld ?_
             refine tq 13 136 16383 HT_ HW_ hHeld ?_
             refine oq 14 137 32767 HT_ (fun K hK=>?_)
             refine gq Try.func30 #[.agg #[.int .i64 ((rd_T23 b0 b5).f0),.int .i64 ((rd_T23 b0 b5).f1)],.agg #[.int .i64 ((rd_T23 b4 b3).f0),.int .i64 ((rd_T23 b4 b3).f1)]] ?_
             with_reducible refine (numnahref07_Less.calls ((rd_T23 b0 b5).f0) ((rd_T23 b0 b5).f1) ((rd_T23 b4 b3).f0) ((rd_T23 b4 b3).f1) true _ X1.out).mono ?_
             rintro e w86 ⟨rfl,hb⟩
             have q2:=(hb.cell (World.block_lt_of_cell? _ _ (hHeld.1))).trans (hHeld.1)
             have q3:=(hb.cell (World.block_lt_of_cell? _ _ (hHeld.2.1))).trans (hHeld.2.1)
             have q0:=(hb.cell (World.block_lt_of_cell? _ _ (hHeld.2.2.1))).trans (hHeld.2.2.1)
             have q1:=(hb.cell (World.block_lt_of_cell? _ _ (hHeld.2.2.2.1))).trans (hHeld.2.2.2.1)
             have F2:=(hb.cell (World.block_lt_of_cell? _ _ (hHeld.2.2.2.2.1))).trans (hHeld.2.2.2.2.1)
             have F3:=(hb.cell (World.block_lt_of_cell? _ _ (hHeld.2.2.2.2.2))).trans (hHeld.2.2.2.2.2)
             refine ⟨_,rfl,?_⟩
             replace b6:=rB b6 hb
             replace b9:=rB b9 hb
             replace b1:=kB b1 hb
             replace b2:=kB b2 hb
             replace HB:=bB HB hb
             (try clear hb)
             refine hz hK (fun hHeld=>?_)
             clear hK K
             refine nq 137 ?_
             refine pq 15 138 65535 HT_ ?_
             refine done_ (done_of HT_.out (by kernel_rfl)) ?_
             try go_wp2
             go_roundg k5
             case measure=>have:=p9.out;have:=n3.out;have:=n9.out;have:=x1.out;have:=C3.out;omega
             case rel=>exact ⟨(wrap64 (j7 + 1)),(j8),(wrap64 (b5 + 1)),(by first | rfl | (simp;done) | (simp [*];done)),(by first | rfl | (simp;done) | (simp [*];done)),(by first | rfl | (simp;done) | (simp [*];done)),H',⟨by have:=p9.out;have:=n3.out;have:=n9.out;have:=x1.out;have:=C3.out;omega⟩,⟨by (with_reducible repeat (first | apply Kd.R_alloc | apply Kd.R_drewN | apply Kd.R_drew));exact b6.out⟩,⟨by (with_reducible repeat (first | apply Kd.R_alloc | apply Kd.R_drewN | apply Kd.R_drew));exact b9.out⟩,⟨by (with_reducible repeat (first | refine blk_drewN ?_ _ | refine blk_drew ?_ | refine blk_alloc ?_ _));exact b1.out⟩,⟨by (with_reducible repeat (first | refine blk_drewN ?_ _ | refine blk_drew ?_ | refine blk_alloc ?_ _));exact b2.out⟩,⟨bl HB⟩⟩
            replace Q6:=Bool.eq_false_iff.mpr Q6
            subst Q6
            rw [if_neg (show ¬ (false = true) by decide)] at H
            have H':=A_ H
            clear H
            try go_wp2
            replace b6:=rD b6
            replace b9:=rD b9
            replace b1:=kD b1
            replace b2:=kD b2
            replace HB:=bD HB
            have i5:0 ≤ (b5:Int):=of_decide_eq_true (by first | (with_reducible assumption) | assumption)
            have i6:b5 < (b0.length:Int):=of_decide_eq_true (by first | (with_reducible assumption) | assumption)
            obtain ⟨d8,o2,e6,e7⟩:=at_T23 (Kd.R_reads' b6.out).2.2 b5 i5 i6
            cases o2
            replace i5:=eq_true i5
            replace i6:=eq_true i6
            have i7:0 ≤ (b3:Int):=of_decide_eq_true (by first | (with_reducible assumption) | assumption)
            have i8:b3 < (b4.length:Int):=of_decide_eq_true (by first | (with_reducible assumption) | assumption)
            obtain ⟨d0,o3,e8,e9⟩:=at_T23 (Kd.R_reads' b9.out).2.2 b3 i7 i8
            cases o3
            replace i7:=eq_true i7
            replace i8:=eq_true i8
            refine start_ (n:=9) (S:=fun w'=>w'.cell? (d8.add ((b5).toNat * 2)) = some (.int .i64 ((rd_T23 b0 b5).f0)) ∧ w'.cell? ⟨(d8.add ((b5).toNat * 2)).block,(d8.add ((b5).toNat * 2)).off + 1,none⟩ = some (.int .i64 ((rd_T23 b0 b5).f1)) ∧ w'.cell? (d0.add ((b3).toNat * 2)) = some (.int .i64 ((rd_T23 b4 b3).f0)) ∧ w'.cell? ⟨(d0.add ((b3).toNat * 2)).block,(d0.add ((b3).toNat * 2)).off + 1,none⟩ = some (.int .i64 ((rd_T23 b4 b3).f1))) (ds:=[]) (ba 9 0) (by kernel_rfl) rfl rfl ⟨e6,e7,e8,e9⟩ (fun hHeld=>?_);refine with_tabW numnahlaw07_SharesFractions.tab26 numnahlaw07_SharesFractions.bits26 (fun HT_ HW_=>?_)
            generalize wr.drew = Z5 at b6 b9 b1 b2 HB e6 e7 e8 e9 hHeld ⊢
            refine pq 0 112 1 HT_ ?_
            refine pq 1 113 3 HT_ ?_
            refine pq 2 114 7 HT_ ?_
            refine pq 4 116 23 HT_ ?_
            refine pq 5 117 55 HT_ ?_
            refine pq 6 118 119 HT_ ?_
            refine tq 3 115 127 HT_ HW_ hHeld ?_
            refine tq 7 119 255 HT_ HW_ hHeld ?_
            refine pq 8 120 511 HT_ ?_
            refine done_ (done_of HT_.out (by kernel_rfl)) ?_
            try go_wp2
            replace b6:=rD b6
            replace b9:=rD b9
            replace b1:=kD b1
            replace b2:=kD b2
            replace HB:=bD HB
            have l7:0 ≤ (b3:Int):=of_decide_eq_true (by first | (with_reducible assumption) | assumption)
            have l8:b3 < (b4.length:Int):=of_decide_eq_true (by first | (with_reducible assumption) | assumption)
            obtain ⟨o4,r7,i2,i3⟩:=at_T23 (Kd.R_reads' b9.out).2.2 b3 l7 l8
            obtain rfl:d0 = o4:=(by injection r7)
            replace l7:=eq_true l7
            replace l8:=eq_true l8
            have o5:0 ≤ (b5:Int):=of_decide_eq_true (by first | (with_reducible assumption) | assumption)
            have o6:b5 < (b0.length:Int):=of_decide_eq_true (by first | (with_reducible assumption) | assumption)
            obtain ⟨s2,z4,l9,m0⟩:=at_T23 (Kd.R_reads' b6.out).2.2 b5 o5 o6
            obtain rfl:d8 = s2:=(by injection z4)
            replace o5:=eq_true o5
            replace o6:=eq_true o6
            have o7:0 ≤ (b3:Int):=of_decide_eq_true (by first | (with_reducible assumption) | assumption)
            have o8:b3 < (b4.length:Int):=of_decide_eq_true (by first | (with_reducible assumption) | assumption)
            obtain ⟨s3,z5,m1,m2⟩:=at_T23 (Kd.R_reads' b9.out).2.2 b3 o7 o8
            obtain rfl:d0 = s3:=(by injection z5)
            replace o7:=eq_true o7
            replace o8:=eq_true o8
            refine start_ (n:=16) (S:=fun w'=>w'.cell? (d0.add ((b3).toNat * 2)) = some (.int .i64 ((rd_T23 b4 b3).f0)) ∧ w'.cell? ⟨(d0.add ((b3).toNat * 2)).block,(d0.add ((b3).toNat * 2)).off + 1,none⟩ = some (.int .i64 ((rd_T23 b4 b3).f1)) ∧ w'.cell? (d8.add ((b5).toNat * 2)) = some (.int .i64 ((rd_T23 b0 b5).f0)) ∧ w'.cell? ⟨(d8.add ((b5).toNat * 2)).block,(d8.add ((b5).toNat * 2)).off + 1,none⟩ = some (.int .i64 ((rd_T23 b0 b5).f1)) ∧ w'.cell? (d0.add ((b3).toNat * 2)) = some (.int .i64 ((rd_T23 b4 b3).f0)) ∧ w'.cell? ⟨(d0.add ((b3).toNat * 2)).block,(d0.add ((b3).toNat * 2)).off + 1,none⟩ = some (.int .i64 ((rd_T23 b4 b3).f1))) (ds:=[]) (ba 16 0) (by kernel_rfl) rfl rfl ⟨i2,i3,l9,m0,m1,m2⟩ (fun hHeld=>?_);refine with_tabW numnahlaw07_SharesFractions.tab28 numnahlaw07_SharesFractions.bits28 (fun HT_ HW_=>?_)
            generalize Z5.drew = w88 at b6 b9 b1 b2 HB i2 i3 l9 m0 m1 m2 hHeld ⊢
            refine pq 0 123 1 HT_ ?_
            refine pq 1 124 3 HT_ ?_
            refine pq 2 125 7 HT_ ?_
            refine tq 3 126 15 HT_ HW_ hHeld ?_
            refine oq 4 127 31 HT_ (fun K hK=>?_)
            refine gq Try.func50 #[.agg #[.int .i64 ((rd_T23 b4 b3).f0),.int .i64 ((rd_T23 b4 b3).f1)]] ?_
            with_reducible refine (numnahref07_Small.calls k5 ((rd_T23 b4 b3).f0) ((rd_T23 b4 b3).f1) true _ R4.out).mono ?_
            rintro e w89 ⟨rfl,hb⟩
            have q2:=(hb.cell (World.block_lt_of_cell? _ _ (hHeld.1))).trans (hHeld.1)
            have q3:=(hb.cell (World.block_lt_of_cell? _ _ (hHeld.2.1))).trans (hHeld.2.1)
            have q0:=(hb.cell (World.block_lt_of_cell? _ _ (hHeld.2.2.1))).trans (hHeld.2.2.1)
            have q1:=(hb.cell (World.block_lt_of_cell? _ _ (hHeld.2.2.2.1))).trans (hHeld.2.2.2.1)
            have F2:=(hb.cell (World.block_lt_of_cell? _ _ (hHeld.2.2.2.2.1))).trans (hHeld.2.2.2.2.1)
            have F3:=(hb.cell (World.block_lt_of_cell? _ _ (hHeld.2.2.2.2.2))).trans (hHeld.2.2.2.2.2)
            refine ⟨_,rfl,?_⟩
            replace b6:=rB b6 hb
            replace b9:=rB b9 hb
            replace b1:=kB b1 hb
            replace b2:=kB b2 hb
            replace HB:=bB HB hb
            (try clear hb)
            refine hz hK (fun hHeld=>?_)
            clear hK K
            refine nq 127 ?_
            refine pq 5 128 63 HT_ ?_
            refine pq 6 129 127 HT_ ?_
            refine pq 7 130 255 HT_ ?_
            refine pq 8 131 511 HT_ ?_
            refine pq 10 133 1535 HT_ ?_
            refine pq 11 134 3583 HT_ ?_
            refine pq 12 135 7679 HT_ ?_
            refine tq 9 132 8191 HT_ HW_ hHeld ?_
            refine tq 13 136 16383 HT_ HW_ hHeld ?_
            refine oq 14 137 32767 HT_ (fun K hK=>?_)
            refine gq Try.func30 #[.agg #[.int .i64 ((rd_T23 b0 b5).f0),.int .i64 ((rd_T23 b0 b5).f1)],.agg #[.int .i64 ((rd_T23 b4 b3).f0),.int .i64 ((rd_T23 b4 b3).f1)]] ?_
            with_reducible refine (numnahref07_Less.calls ((rd_T23 b0 b5).f0) ((rd_T23 b0 b5).f1) ((rd_T23 b4 b3).f0) ((rd_T23 b4 b3).f1) false _ X1.out).mono ?_
            rintro e w90 ⟨rfl,hb⟩
            have q2:=(hb.cell (World.block_lt_of_cell? _ _ (hHeld.1))).trans (hHeld.1)
            have q3:=(hb.cell (World.block_lt_of_cell? _ _ (hHeld.2.1))).trans (hHeld.2.1)
            have q0:=(hb.cell (World.block_lt_of_cell? _ _ (hHeld.2.2.1))).trans (hHeld.2.2.1)
            have q1:=(hb.cell (World.block_lt_of_cell? _ _ (hHeld.2.2.2.1))).trans (hHeld.2.2.2.1)
            have F2:=(hb.cell (World.block_lt_of_cell? _ _ (hHeld.2.2.2.2.1))).trans (hHeld.2.2.2.2.1)
            have F3:=(hb.cell (World.block_lt_of_cell? _ _ (hHeld.2.2.2.2.2))).trans (hHeld.2.2.2.2.2)
            refine ⟨_,rfl,?_⟩
            replace b6:=rB b6 hb
            replace b9:=rB b9 hb
            replace b1:=kB b1 hb
            replace b2:=kB b2 hb
            replace HB:=bB HB hb
            (try clear hb)
            refine hz hK (fun hHeld=>?_)
            clear hK K
            refine nq 137 ?_
            refine pq 15 138 65535 HT_ ?_
            refine done_ (done_of HT_.out (by kernel_rfl)) ?_
            try go_wp2
            go_roundg k5
            case measure=>have:=p9.out;have:=n3.out;have:=n9.out;have:=x1.out;have:=C3.out;omega
            case rel=>exact ⟨(j7),(j8),(wrap64 (b5 + 1)),(by first | rfl | (simp;done) | (simp [*];done)),(by first | rfl | (simp;done) | (simp [*];done)),(by first | rfl | (simp;done) | (simp [*];done)),H',⟨by have:=p9.out;have:=n3.out;have:=n9.out;have:=x1.out;have:=C3.out;omega⟩,⟨by (with_reducible repeat (first | apply Kd.R_alloc | apply Kd.R_drewN | apply Kd.R_drew));exact b6.out⟩,⟨by (with_reducible repeat (first | apply Kd.R_alloc | apply Kd.R_drewN | apply Kd.R_drew));exact b9.out⟩,⟨by (with_reducible repeat (first | refine blk_drewN ?_ _ | refine blk_drew ?_ | refine blk_alloc ?_ _));exact b1.out⟩,⟨by (with_reducible repeat (first | refine blk_drewN ?_ _ | refine blk_drew ?_ | refine blk_alloc ?_ _));exact b2.out⟩,⟨bl HB⟩⟩
         rw [if_neg I2] at H
         have L0:=decide_eq_false I2
         clear I2
         by_cases I6:(b0.length:Int) < 2
         ·rw [if_pos I6] at H
          have M1:=decide_eq_true I6
          have M2:decide (b0.length < 2) = true:=decide_eq_true (by omega)
          clear I6
          replace H:=Option.bind_eq_some_iff.mp H
          obtain ⟨t5,M3,H⟩:=H
          replace H:(some t5) = some r:=H
          have Z6:=A_ M3
          clear M3
          obtain rfl:=Option.some.inj H
          obtain ⟨Z7,Z8,R5⟩:=Kd.R_slice b9.out
          subst R5
          go_wp2_with (first | ((with_reducible refine gate_callee (f:=22) rfl ?_);refine gL (some 154) Try.func22 #[] ?_;(with_reducible refine (numnahlaw07_awake.calls k4  t5 _ Z6.out).mono ?_);rintro e w99 ⟨rfl,hb⟩;refine ⟨_,rfl,?_⟩;replace b6:=rB b6 hb;replace b9:=rB b9 hb;replace b1:=kB b1 hb;replace b2:=kB b2 hb;replace HB:=bB HB hb;(try clear hb)))
          go_ret
          exact ⟨by first | rfl | (simp [errW_none,errW_some] <;> rfl) | (simp [*,errW_none,errW_some] <;> rfl),bl HB⟩
         rw [if_neg I6] at H
         have M1:=decide_eq_false I6
         have M2:decide (b0.length < 2) = false:=decide_eq_false (by omega)
         clear I6
         replace H:=gd H
         obtain ⟨M4,H⟩:=H
         have R6:=decide_eq_true M4
         have R7:decide (0 < b0.length) = true:=decide_eq_true (by omega)
         clear M4
         replace H:=gd H
         obtain ⟨M5,H⟩:=H
         have R8:=decide_eq_true M5
         have R9:decide (1 < b0.length) = true:=decide_eq_true (by omega)
         clear M5
         replace H:=Option.bind_eq_some_iff.mp H
         obtain ⟨⟨d9,e0⟩,A1020,H⟩:=H
         dsimp only at H
         have S0:=A_ A1020
         clear A1020
         have z6:=A_ H
         clear H
         obtain ⟨X2,X3,M6⟩:=Kd.R_slice b9.out
         subst M6
         try go_wp2
         replace b6:=rD b6
         replace b9:=rD b9
         replace b1:=kD b1
         replace b2:=kD b2
         replace HB:=bD HB
         have z7:0 ≤ (0:Int):=(by omega)
         have z8:0 < (b0.length:Int):=of_decide_eq_true (by first | (with_reducible assumption) | assumption)
         obtain ⟨b7,M7,m3,m4⟩:=at_T23 (Kd.R_reads' b6.out).2.2 0 z7 z8
         cases M7
         have S1:(0 < b0.length) = True:=eq_true (by omega)
         (try rw [show ((0:Int)).toNat = 0 from rfl] at m3)
         (try rw [show 0 * 2 = 0 from rfl] at m3)
         (try rw [Addr.add_zero'] at m3)
         (try rw [show ((0:Int)).toNat = 0 from rfl] at m4)
         (try rw [show 0 * 2 = 0 from rfl] at m4)
         (try rw [Addr.add_zero'] at m4)
         replace z7:=eq_true z7
         replace z8:=eq_true z8
         have z9:0 ≤ (1:Int):=(by omega)
         have A1:1 < (b0.length:Int):=of_decide_eq_true (by first | (with_reducible assumption) | assumption)
         obtain ⟨F4,M8,m5,m6⟩:=at_T23 (Kd.R_reads' b6.out).2.2 1 z9 A1
         obtain rfl:b7 = F4:=(by injection M8)
         (try simp only [show (1:Int).toNat = 1 from rfl,Nat.reduceMul,Nat.reduceEqDiff,Go.Addr.add,↓reduceIte] at m5)
         (try simp only [show (1:Int).toNat = 1 from rfl,Nat.reduceMul,Nat.reduceEqDiff,Go.Addr.add,↓reduceIte] at m6)
         have S2:(1 < b0.length) = True:=eq_true (by omega)
         (try rw [show ((1:Int)).toNat = 1 from rfl] at m5)
         (try rw [show 1 * 2 = 2 from rfl] at m5)
         (try rw [show ((1:Int)).toNat = 1 from rfl] at m6)
         (try rw [show 1 * 2 = 2 from rfl] at m6)
         replace z9:=eq_true z9
         replace A1:=eq_true A1
         refine start_ (n:=12) (S:=fun w'=>w'.cell? b7 = some (.int .i64 ((rd_T23 b0 0).f0)) ∧ w'.cell? ⟨b7.block,b7.off + 1,none⟩ = some (.int .i64 ((rd_T23 b0 0).f1)) ∧ w'.cell? ⟨b7.block,b7.off + 2,none⟩ = some (.int .i64 ((rd_T23 b0 1).f0)) ∧ w'.cell? ⟨b7.block,b7.off + 2 + 1,none⟩ = some (.int .i64 ((rd_T23 b0 1).f1))) (ds:=[]) (ba 12 0) (by kernel_rfl) rfl rfl ⟨m3,m4,m5,m6⟩ (fun hHeld=>?_);refine with_tabW numnahlaw07_SharesFractions.tab34 numnahlaw07_SharesFractions.bits34 (fun HT_ HW_=>?_)
         generalize wr.drew = Z9 at b6 b9 b1 b2 HB m3 m4 m5 m6 hHeld ⊢
         refine pq 0 156 1 HT_ ?_
         refine pq 1 157 3 HT_ ?_
         refine pq 3 159 11 HT_ ?_
         refine pq 4 160 27 HT_ ?_
         refine tq 2 158 31 HT_ HW_ hHeld ?_
         refine tq 5 161 63 HT_ HW_ hHeld ?_
         refine oq 6 162 127 HT_ (fun K hK=>?_)
         refine gq Try.func51 #[.agg #[.int .i64 ((rd_T23 b0 0).f0),.int .i64 ((rd_T23 b0 0).f1)],.agg #[.int .i64 ((rd_T23 b0 1).f0),.int .i64 ((rd_T23 b0 1).f1)]] ?_
         with_reducible refine (shares_Compare.calls k4 ((rd_T23 b0 0).f0) ((rd_T23 b0 0).f1) ((rd_T23 b0 1).f0) ((rd_T23 b0 1).f1) d9 e0 _ S0.out).mono ?_
         rintro e ba0 ⟨rfl,hb⟩
         have q2:=(hb.cell (World.block_lt_of_cell? _ _ (hHeld.1))).trans (hHeld.1)
         have q3:=(hb.cell (World.block_lt_of_cell? _ _ (hHeld.2.1))).trans (hHeld.2.1)
         have q0:=(hb.cell (World.block_lt_of_cell? _ _ (hHeld.2.2.1))).trans (hHeld.2.2.1)
         have q1:=(hb.cell (World.block_lt_of_cell? _ _ (hHeld.2.2.2))).trans (hHeld.2.2.2)
         refine ⟨_,rfl,?_⟩
         replace b6:=rB b6 hb
         replace b9:=rB b9 hb
         replace b1:=kB b1 hb
         replace b2:=kB b2 hb
         replace HB:=bB HB hb
         (try clear hb)
         refine hz hK (fun hHeld=>?_)
         clear hK K
         refine nq 162 ?_
         refine pq 7 155 255 HT_ ?_
         refine pq 8 163 511 HT_ ?_
         refine pq 9 164 1023 HT_ ?_
         refine pq 10 16 2047 HT_ ?_
         refine pq 11 17 4095 HT_ ?_
         refine done_ (done_of HT_.out (by kernel_rfl)) ?_
         go_upto_region 35 with (fail)
         go_cut [176] (fun S3 wc=>∃ (kq:Nat) (n4:Bool),S3 = .bool n4 ∧ Aside0 (numnahlaw07_SharesFractions.j6 kq b0 d9 e0 n4 = some r) ∧ Aside0 (kq ≤ k4) ∧ Aside0 (Kd.R k23 23 wc w.heap.size (fun k_=>k_ ≠ c1 ∧ k_ ≠ b8) (.slice (some b7) b0.length s0) b0) ∧ Aside0 (wc.heap[c1]? = some (.cells #[.int .i64 e1,.int .i64 e4] 23 (0,0))) ∧ Aside0 (wc.heap[b8]? = some (.cells #[.int .i64 d1,.int .i64 d2] 23 (0,0))) ∧ Aside0 (Below w.heap.size w wc))
         case first=>as_aux_lemma =>
          have H:=z6.out
          clear z6
          replace H:=Option.bind_eq_some_iff.mp H
          obtain ⟨t6,D6,H⟩:=H
          replace H:(if t6 = true then ((numnahref07_Small.f k4 ((rd_T23 b0 1).f0) ((rd_T23 b0 1).f1)).bind fun o0=>(numnahlaw07_SharesFractions.j6 k4 b0 d9 e0 (!o0))) else (numnahlaw07_SharesFractions.j6 k4 b0 d9 e0 true)) = some r:=H
          have M9:=A_ D6
          clear D6
          by_cases D1:t6 = true
          case neg =>
           replace D1:=Bool.eq_false_iff.mpr D1
           subst D1
           rw [if_neg (show ¬ (false = true) by decide)] at H
           have H':=A_ H
           clear H
           have o9:0 ≤ (0:Int):=(by omega)
           have p0:0 < (b0.length:Int):=of_decide_eq_true (by first | (with_reducible assumption) | assumption)
           obtain ⟨s4,A6,i9,j5⟩:=at_T23 (Kd.R_reads' b6.out).2.2 0 o9 p0
           obtain rfl:b7 = s4:=(by injection A6)
           have F5:(0 < b0.length) = True:=eq_true (by omega)
           (try rw [show ((0:Int)).toNat = 0 from rfl] at i9)
           (try rw [show 0 * 2 = 0 from rfl] at i9)
           (try rw [Addr.add_zero'] at i9)
           (try rw [show ((0:Int)).toNat = 0 from rfl] at j5)
           (try rw [show 0 * 2 = 0 from rfl] at j5)
           (try rw [Addr.add_zero'] at j5)
           replace o9:=eq_true o9
           replace p0:=eq_true p0
           go_wp2_with (first | ((with_reducible refine gate_callee (f:=50) rfl ?_);refine gL (some 168) Try.func50 #[.agg #[.int .i64 ((rd_T23 b0 0).f0),.int .i64 ((rd_T23 b0 0).f1)]] ?_;(with_reducible refine (numnahref07_Small.calls k4 ((rd_T23 b0 0).f0) ((rd_T23 b0 0).f1) false _ M9.out).mono ?_);rintro e ba1 ⟨rfl,hb⟩;refine ⟨_,rfl,?_⟩;replace b6:=rB b6 hb;replace b9:=rB b9 hb;replace b1:=kB b1 hb;replace b2:=kB b2 hb;replace HB:=bB HB hb;(try clear hb)))
           go_meet
           case rel=>exact ⟨_,(true),(by first | rfl | (simp;done) | (simp [*];done)),H',⟨by have:=p9.out;have:=n3.out;have:=n9.out;have:=x1.out;first | omega | exact Nat.le_refl _⟩,⟨by (with_reducible repeat (first | apply Kd.R_alloc | apply Kd.R_drewN | apply Kd.R_drew));exact Kd.R_mono b6.out (fun _ hk=>⟨hk.2.1,hk.2.2⟩)⟩,⟨by (with_reducible repeat (first | refine blk_drewN ?_ _ | refine blk_drew ?_ | refine blk_alloc ?_ _));exact b1.out⟩,⟨by (with_reducible repeat (first | refine blk_drewN ?_ _ | refine blk_drew ?_ | refine blk_alloc ?_ _));exact b2.out⟩,⟨bl HB⟩⟩
          subst D1
          rw [if_pos rfl] at H
          replace H:=Option.bind_eq_some_iff.mp H
          obtain ⟨o0,D7,H⟩:=H
          replace H:(numnahlaw07_SharesFractions.j6 k4 b0 d9 e0 (!o0)) = some r:=H
          have S4:=A_ D7
          clear D7
          have H':=A_ H
          clear H
          have o9:0 ≤ (0:Int):=(by omega)
          have p0:0 < (b0.length:Int):=of_decide_eq_true (by first | (with_reducible assumption) | assumption)
          obtain ⟨s4,A6,i9,j5⟩:=at_T23 (Kd.R_reads' b6.out).2.2 0 o9 p0
          obtain rfl:b7 = s4:=(by injection A6)
          have F5:(0 < b0.length) = True:=eq_true (by omega)
          (try rw [show ((0:Int)).toNat = 0 from rfl] at i9)
          (try rw [show 0 * 2 = 0 from rfl] at i9)
          (try rw [Addr.add_zero'] at i9)
          (try rw [show ((0:Int)).toNat = 0 from rfl] at j5)
          (try rw [show 0 * 2 = 0 from rfl] at j5)
          (try rw [Addr.add_zero'] at j5)
          replace o9:=eq_true o9
          replace p0:=eq_true p0
          go_wp2_with (first | ((with_reducible refine gate_callee (f:=50) rfl ?_);refine gL (some 168) Try.func50 #[.agg #[.int .i64 ((rd_T23 b0 0).f0),.int .i64 ((rd_T23 b0 0).f1)]] ?_;(with_reducible refine (numnahref07_Small.calls k4 ((rd_T23 b0 0).f0) ((rd_T23 b0 0).f1) true _ M9.out).mono ?_);rintro e ba2 ⟨rfl,hb⟩;refine ⟨_,rfl,?_⟩;replace b6:=rB b6 hb;replace b9:=rB b9 hb;replace b1:=kB b1 hb;replace b2:=kB b2 hb;replace HB:=bB HB hb;(try clear hb);have A7:0 ≤ (1:Int):=(by omega);have A8:1 < (b0.length:Int):=of_decide_eq_true (by first | (with_reducible assumption) | assumption);obtain ⟨F6,N0,p1,p2⟩:=at_T23 (Kd.R_reads' b6.out).2.2 1 A7 A8;obtain rfl:b7 = F6:=(by injection N0);(try simp only [show (1:Int).toNat = 1 from rfl,Nat.reduceMul,Nat.reduceEqDiff,Go.Addr.add,↓reduceIte] at p1);(try simp only [show (1:Int).toNat = 1 from rfl,Nat.reduceMul,Nat.reduceEqDiff,Go.Addr.add,↓reduceIte] at p2);have S5:(1 < b0.length) = True:=eq_true (by omega);(try rw [show ((1:Int)).toNat = 1 from rfl] at p1);(try rw [show 1 * 2 = 2 from rfl] at p1);(try rw [show ((1:Int)).toNat = 1 from rfl] at p2);(try rw [show 1 * 2 = 2 from rfl] at p2);replace A7:=eq_true A7;replace A8:=eq_true A8) | (go_at_call 50;(with_reducible refine (numnahref07_Small.calls k4 ((rd_T23 b0 1).f0) ((rd_T23 b0 1).f1) o0 _ S4.out).mono ?_);rintro e ba3 ⟨rfl,hb⟩;replace b6:=rB b6 hb;replace b9:=rB b9 hb;replace b1:=kB b1 hb;replace b2:=kB b2 hb;replace HB:=bB HB hb;(try clear hb)))
          go_meet
          case rel=>exact ⟨_,(!o0),(by first | rfl | (simp;done) | (simp [*];done)),H',⟨by have:=p9.out;have:=n3.out;have:=n9.out;have:=x1.out;first | omega | exact Nat.le_refl _⟩,⟨by (with_reducible repeat (first | apply Kd.R_alloc | apply Kd.R_drewN | apply Kd.R_drew));exact Kd.R_mono b6.out (fun _ hk=>⟨hk.2.1,hk.2.2⟩)⟩,⟨by (with_reducible repeat (first | refine blk_drewN ?_ _ | refine blk_drew ?_ | refine blk_alloc ?_ _));exact b1.out⟩,⟨by (with_reducible repeat (first | refine blk_drewN ?_ _ | refine blk_drew ?_ | refine blk_alloc ?_ _));exact b2.out⟩,⟨bl HB⟩⟩
         case rest=>as_aux_lemma =>
          clear z6
          obtain ⟨kq,n4,rfl,HA,X4,b6,b1,b2,HB⟩:=hcut
          cases kq with
          | zero=>exact absurd HA.out (by simp [numnahlaw07_SharesFractions.j6])
          | succ n5 =>
           have H:=HA.out
           clear HA
           simp only [numnahlaw07_SharesFractions.j6] at H
           by_cases D2:n4 = true
           ·subst D2
            rw [if_pos rfl] at H
            by_cases s5:d9 = 0
            case neg =>
             rw [if_neg s5] at H
             have F7:(d9 == 0) = false:=beq_eq_false_iff_ne.mpr s5
             have F8:(d9 != 0) = true:=bne_iff_ne.mpr s5
             exact absurd ((Option.some.inj H).trans HRT.out) (by decide)
            rw [if_pos s5] at H
            have F7:(d9 == 0) = true:=beq_iff_eq.mpr s5
            have F8:(d9 != 0) = false:=bne_eq_false_iff_eq.mpr s5
            clear s5
            by_cases s6:e0 = 2
            case neg =>
             rw [if_neg s6] at H
             have F9:(e0 == 2) = false:=beq_eq_false_iff_ne.mpr s6
             have G0:(e0 != 2) = true:=bne_iff_ne.mpr s6
             exact absurd ((Option.some.inj H).trans HRT.out) (by decide)
            rw [if_pos s6] at H
            have F9:(e0 == 2) = true:=beq_iff_eq.mpr s6
            have G0:(e0 != 2) = false:=bne_eq_false_iff_eq.mpr s6
            clear s6
            replace H:=Option.bind_eq_some_iff.mp H
            obtain ⟨t8,D8,H⟩:=H
            replace H:(some t8) = some r:=H
            have S6:=A_ D8
            clear D8
            obtain rfl:=Option.some.inj H
            go_wp2_with (first | (go_at_call 22;(with_reducible refine (numnahlaw07_awake.calls n5  t8 _ S6.out).mono ?_);rintro e ba4 ⟨rfl,hb⟩;replace b6:=rB b6 hb;replace b1:=kB b1 hb;replace b2:=kB b2 hb;replace HB:=bB HB hb;(try clear hb)))
            go_ret
            exact ⟨by first | rfl | (simp [errW_none,errW_some] <;> rfl) | (simp [*,errW_none,errW_some] <;> rfl),bl HB⟩
           replace D2:=Bool.eq_false_iff.mpr D2
           subst D2
           rw [if_neg (show ¬ (false = true) by decide)] at H
           replace H:=gd H
           obtain ⟨N1,H⟩:=H
           have S7:=decide_eq_true N1
           have S8:decide (0 < b0.length) = true:=decide_eq_true (by omega)
           clear N1
           replace H:=gd H
           obtain ⟨N2,H⟩:=H
           have S9:=decide_eq_true N2
           have T0:decide (1 < b0.length) = true:=decide_eq_true (by omega)
           clear N2
           replace H:=Option.bind_eq_some_iff.mp H
           obtain ⟨t9,D9,H⟩:=H
           replace H:(if t9 = true then (if d9 = (-1) then (if e0 = 0 then ((numnahlaw07_awake.f n5).bind fun q5=>(some q5)) else (some false)) else (some false)) else ((numnahref07_Less.f ((rd_T23 b0 1).f0) ((rd_T23 b0 1).f1) ((rd_T23 b0 0).f0) ((rd_T23 b0 0).f1)).bind fun q6=>(if q6 = true then (if d9 = 1 then (if e0 = 0 then ((numnahlaw07_awake.f n5).bind fun n6=>(some n6)) else (some false)) else (some false)) else (if d9 = 0 then (if e0 = 0 then ((numnahlaw07_awake.f n5).bind fun n7=>(some n7)) else (some false)) else (some false))))) = some r:=H
           have G1:=A_ D9
           clear D9
           by_cases D3:t9 = true
           ·subst D3
            rw [if_pos rfl] at H
            by_cases s7:d9 = (-1)
            case neg =>
             rw [if_neg s7] at H
             have G2:(d9 == (-1)) = false:=beq_eq_false_iff_ne.mpr s7
             have G3:(d9 != (-1)) = true:=bne_iff_ne.mpr s7
             exact absurd ((Option.some.inj H).trans HRT.out) (by decide)
            rw [if_pos s7] at H
            have G2:(d9 == (-1)) = true:=beq_iff_eq.mpr s7
            have G3:(d9 != (-1)) = false:=bne_eq_false_iff_eq.mpr s7
            clear s7
            by_cases s8:e0 = 0
            case neg =>
             rw [if_neg s8] at H
             have G4:(e0 == 0) = false:=beq_eq_false_iff_ne.mpr s8
             have G5:(e0 != 0) = true:=bne_iff_ne.mpr s8
             exact absurd ((Option.some.inj H).trans HRT.out) (by decide)
            rw [if_pos s8] at H
            have G4:(e0 == 0) = true:=beq_iff_eq.mpr s8
            have G5:(e0 != 0) = false:=bne_eq_false_iff_eq.mpr s8
            clear s8
            replace H:=Option.bind_eq_some_iff.mp H
            obtain ⟨q5,E0,H⟩:=H
            replace H:(some q5) = some r:=H
            have U0:=A_ E0
            clear E0
            obtain rfl:=Option.some.inj H
            try go_wp2
            replace b6:=rD b6
            replace b1:=kD b1
            replace b2:=kD b2
            replace HB:=bD HB
            have m7:0 ≤ (0:Int):=(by omega)
            have m8:0 < (b0.length:Int):=of_decide_eq_true (by first | (with_reducible assumption) | assumption)
            obtain ⟨p3,r8,d3,d4⟩:=at_T23 (Kd.R_reads' b6.out).2.2 0 m7 m8
            obtain rfl:b7 = p3:=(by injection r8)
            have A9:(0 < b0.length) = True:=eq_true (by omega)
            (try rw [show ((0:Int)).toNat = 0 from rfl] at d3)
            (try rw [show 0 * 2 = 0 from rfl] at d3)
            (try rw [Addr.add_zero'] at d3)
            (try rw [show ((0:Int)).toNat = 0 from rfl] at d4)
            (try rw [show 0 * 2 = 0 from rfl] at d4)
            (try rw [Addr.add_zero'] at d4)
            replace m7:=eq_true m7
            replace m8:=eq_true m8
            have m9:0 ≤ (1:Int):=(by omega)
            have n0:1 < (b0.length:Int):=of_decide_eq_true (by first | (with_reducible assumption) | assumption)
            obtain ⟨p4,r9,d5,d6⟩:=at_T23 (Kd.R_reads' b6.out).2.2 1 m9 n0
            obtain rfl:b7 = p4:=(by injection r9)
            (try simp only [show (1:Int).toNat = 1 from rfl,Nat.reduceMul,Nat.reduceEqDiff,Go.Addr.add,↓reduceIte] at d5)
            (try simp only [show (1:Int).toNat = 1 from rfl,Nat.reduceMul,Nat.reduceEqDiff,Go.Addr.add,↓reduceIte] at d6)
            have B0:(1 < b0.length) = True:=eq_true (by omega)
            (try rw [show ((1:Int)).toNat = 1 from rfl] at d5)
            (try rw [show 1 * 2 = 2 from rfl] at d5)
            (try rw [show ((1:Int)).toNat = 1 from rfl] at d6)
            (try rw [show 1 * 2 = 2 from rfl] at d6)
            replace m9:=eq_true m9
            replace n0:=eq_true n0
            refine start_ (n:=7) (S:=fun w'=>w'.cell? b7 = some (.int .i64 ((rd_T23 b0 0).f0)) ∧ w'.cell? ⟨b7.block,b7.off + 1,none⟩ = some (.int .i64 ((rd_T23 b0 0).f1)) ∧ w'.cell? ⟨b7.block,b7.off + 2,none⟩ = some (.int .i64 ((rd_T23 b0 1).f0)) ∧ w'.cell? ⟨b7.block,b7.off + 2 + 1,none⟩ = some (.int .i64 ((rd_T23 b0 1).f1))) (ds:=[]) (ba 7 0) (by kernel_rfl) rfl rfl ⟨d3,d4,d5,d6⟩ (fun hHeld=>?_)
            generalize wc.drew = ba5 at b6 b1 b2 HB d3 d4 d5 d6 hHeld ⊢
            refine pr 0 186 1 ?_
            refine pr 1 187 3 ?_
            refine pr 3 189 11 ?_
            refine pr 4 190 27 ?_
            refine tr 2 188 31 hHeld ?_
            refine tr 5 191 63 hHeld ?_
            refine os 6 192 127 (fun K hK=>?_)
            refine gq Try.func30 #[.agg #[.int .i64 ((rd_T23 b0 0).f0),.int .i64 ((rd_T23 b0 0).f1)],.agg #[.int .i64 ((rd_T23 b0 1).f0),.int .i64 ((rd_T23 b0 1).f1)]] ?_
            with_reducible refine (numnahref07_Less.calls ((rd_T23 b0 0).f0) ((rd_T23 b0 0).f1) ((rd_T23 b0 1).f0) ((rd_T23 b0 1).f1) true _ G1.out).mono ?_
            rintro e ba6 ⟨rfl,hb⟩
            have q2:=(hb.cell (World.block_lt_of_cell? _ _ (hHeld.1))).trans (hHeld.1)
            have q3:=(hb.cell (World.block_lt_of_cell? _ _ (hHeld.2.1))).trans (hHeld.2.1)
            have q0:=(hb.cell (World.block_lt_of_cell? _ _ (hHeld.2.2.1))).trans (hHeld.2.2.1)
            have q1:=(hb.cell (World.block_lt_of_cell? _ _ (hHeld.2.2.2))).trans (hHeld.2.2.2)
            refine ⟨_,rfl,?_⟩
            replace b6:=rB b6 hb
            replace b1:=kB b1 hb
            replace b2:=kB b2 hb
            replace HB:=bB HB hb
            (try clear hb)
            refine hz hK (fun hHeld=>?_)
            clear hK K
            refine nq 192 ?_
            refine done_ (by kernel_rfl) ?_
            try go_wp2_with (first | (go_at_call 22;(with_reducible refine (numnahlaw07_awake.calls n5  q5 _ U0.out).mono ?_);rintro e ba7 ⟨rfl,hb⟩;replace b6:=rB b6 hb;replace b1:=kB b1 hb;replace b2:=kB b2 hb;replace HB:=bB HB hb;(try clear hb)))
            go_ret
            exact ⟨by first | rfl | (simp [errW_none,errW_some] <;> rfl) | (simp [*,errW_none,errW_some] <;> rfl),bl HB⟩
           replace D3:=Bool.eq_false_iff.mpr D3
           subst D3
           rw [if_neg (show ¬ (false = true) by decide)] at H
           replace H:=Option.bind_eq_some_iff.mp H
           obtain ⟨q6,E1,H⟩:=H
           replace H:(if q6 = true then (if d9 = 1 then (if e0 = 0 then ((numnahlaw07_awake.f n5).bind fun n6=>(some n6)) else (some false)) else (some false)) else (if d9 = 0 then (if e0 = 0 then ((numnahlaw07_awake.f n5).bind fun n7=>(some n7)) else (some false)) else (some false))) = some r:=H
           have N3:=A_ E1
           clear E1
           by_cases D4:q6 = true
           ·subst D4
            rw [if_pos rfl] at H
            by_cases s9:d9 = 1
            case neg =>
             rw [if_neg s9] at H
             have G6:(d9 == 1) = false:=beq_eq_false_iff_ne.mpr s9
             have G7:(d9 != 1) = true:=bne_iff_ne.mpr s9
             exact absurd ((Option.some.inj H).trans HRT.out) (by decide)
            rw [if_pos s9] at H
            have G6:(d9 == 1) = true:=beq_iff_eq.mpr s9
            have G7:(d9 != 1) = false:=bne_eq_false_iff_eq.mpr s9
            clear s9
            by_cases t0:e0 = 0
            case neg =>
             rw [if_neg t0] at H
             have G8:(e0 == 0) = false:=beq_eq_false_iff_ne.mpr t0
             have G9:(e0 != 0) = true:=bne_iff_ne.mpr t0
             exact absurd ((Option.some.inj H).trans HRT.out) (by decide)
            rw [if_pos t0] at H
            have G8:(e0 == 0) = true:=beq_iff_eq.mpr t0
            have G9:(e0 != 0) = false:=bne_eq_false_iff_eq.mpr t0
            clear t0
            replace H:=Option.bind_eq_some_iff.mp H
            obtain ⟨n6,E2,H⟩:=H
            replace H:(some n6) = some r:=H
            have U1:=A_ E2
            clear E2
            obtain rfl:=Option.some.inj H
            try go_wp2
            replace b6:=rD b6
            replace b1:=kD b1
            replace b2:=kD b2
            replace HB:=bD HB
            have m7:0 ≤ (0:Int):=(by omega)
            have m8:0 < (b0.length:Int):=of_decide_eq_true (by first | (with_reducible assumption) | assumption)
            obtain ⟨p3,r8,d3,d4⟩:=at_T23 (Kd.R_reads' b6.out).2.2 0 m7 m8
            obtain rfl:b7 = p3:=(by injection r8)
            have A9:(0 < b0.length) = True:=eq_true (by omega)
            (try rw [show ((0:Int)).toNat = 0 from rfl] at d3)
            (try rw [show 0 * 2 = 0 from rfl] at d3)
            (try rw [Addr.add_zero'] at d3)
            (try rw [show ((0:Int)).toNat = 0 from rfl] at d4)
            (try rw [show 0 * 2 = 0 from rfl] at d4)
            (try rw [Addr.add_zero'] at d4)
            replace m7:=eq_true m7
            replace m8:=eq_true m8
            have m9:0 ≤ (1:Int):=(by omega)
            have n0:1 < (b0.length:Int):=of_decide_eq_true (by first | (with_reducible assumption) | assumption)
            obtain ⟨p4,r9,d5,d6⟩:=at_T23 (Kd.R_reads' b6.out).2.2 1 m9 n0
            obtain rfl:b7 = p4:=(by injection r9)
            (try simp only [show (1:Int).toNat = 1 from rfl,Nat.reduceMul,Nat.reduceEqDiff,Go.Addr.add,↓reduceIte] at d5)
            (try simp only [show (1:Int).toNat = 1 from rfl,Nat.reduceMul,Nat.reduceEqDiff,Go.Addr.add,↓reduceIte] at d6)
            have B0:(1 < b0.length) = True:=eq_true (by omega)
            (try rw [show ((1:Int)).toNat = 1 from rfl] at d5)
            (try rw [show 1 * 2 = 2 from rfl] at d5)
            (try rw [show ((1:Int)).toNat = 1 from rfl] at d6)
            (try rw [show 1 * 2 = 2 from rfl] at d6)
            replace m9:=eq_true m9
            replace n0:=eq_true n0
            refine start_ (n:=7) (S:=fun w'=>w'.cell? b7 = some (.int .i64 ((rd_T23 b0 0).f0)) ∧ w'.cell? ⟨b7.block,b7.off + 1,none⟩ = some (.int .i64 ((rd_T23 b0 0).f1)) ∧ w'.cell? ⟨b7.block,b7.off + 2,none⟩ = some (.int .i64 ((rd_T23 b0 1).f0)) ∧ w'.cell? ⟨b7.block,b7.off + 2 + 1,none⟩ = some (.int .i64 ((rd_T23 b0 1).f1))) (ds:=[]) (ba 7 0) (by kernel_rfl) rfl rfl ⟨d3,d4,d5,d6⟩ (fun hHeld=>?_)
            generalize wc.drew = ba8 at b6 b1 b2 HB d3 d4 d5 d6 hHeld ⊢
            refine pr 0 186 1 ?_
            refine pr 1 187 3 ?_
            refine pr 3 189 11 ?_
            refine pr 4 190 27 ?_
            refine tr 2 188 31 hHeld ?_
            refine tr 5 191 63 hHeld ?_
            refine os 6 192 127 (fun K hK=>?_)
            refine gq Try.func30 #[.agg #[.int .i64 ((rd_T23 b0 0).f0),.int .i64 ((rd_T23 b0 0).f1)],.agg #[.int .i64 ((rd_T23 b0 1).f0),.int .i64 ((rd_T23 b0 1).f1)]] ?_
            with_reducible refine (numnahref07_Less.calls ((rd_T23 b0 0).f0) ((rd_T23 b0 0).f1) ((rd_T23 b0 1).f0) ((rd_T23 b0 1).f1) false _ G1.out).mono ?_
            rintro e U2 ⟨rfl,hb⟩
            have q2:=(hb.cell (World.block_lt_of_cell? _ _ (hHeld.1))).trans (hHeld.1)
            have q3:=(hb.cell (World.block_lt_of_cell? _ _ (hHeld.2.1))).trans (hHeld.2.1)
            have q0:=(hb.cell (World.block_lt_of_cell? _ _ (hHeld.2.2.1))).trans (hHeld.2.2.1)
            have q1:=(hb.cell (World.block_lt_of_cell? _ _ (hHeld.2.2.2))).trans (hHeld.2.2.2)
            refine ⟨_,rfl,?_⟩
            replace b6:=rB b6 hb
            replace b1:=kB b1 hb
            replace b2:=kB b2 hb
            replace HB:=bB HB hb
            (try clear hb)
            refine hz hK (fun hHeld=>?_)
            clear hK K
            refine nq 192 ?_
            refine done_ (by kernel_rfl) ?_
            try go_wp2
            replace b6:=rD b6
            replace b1:=kD b1
            replace b2:=kD b2
            replace HB:=bD HB
            have p5:0 ≤ (1:Int):=(by omega)
            have p6:1 < (b0.length:Int):=of_decide_eq_true (by first | (with_reducible assumption) | assumption)
            obtain ⟨t1,C0,h0,h1⟩:=at_T23 (Kd.R_reads' b6.out).2.2 1 p5 p6
            obtain rfl:b7 = t1:=(by injection C0)
            (try simp only [show (1:Int).toNat = 1 from rfl,Nat.reduceMul,Nat.reduceEqDiff,Go.Addr.add,↓reduceIte] at h0)
            (try simp only [show (1:Int).toNat = 1 from rfl,Nat.reduceMul,Nat.reduceEqDiff,Go.Addr.add,↓reduceIte] at h1)
            have H0:(1 < b0.length) = True:=eq_true (by omega)
            (try rw [show ((1:Int)).toNat = 1 from rfl] at h0)
            (try rw [show 1 * 2 = 2 from rfl] at h0)
            (try rw [show ((1:Int)).toNat = 1 from rfl] at h1)
            (try rw [show 1 * 2 = 2 from rfl] at h1)
            replace p5:=eq_true p5
            replace p6:=eq_true p6
            have p7:0 ≤ (0:Int):=(by omega)
            have p8:0 < (b0.length:Int):=of_decide_eq_true (by first | (with_reducible assumption) | assumption)
            obtain ⟨t2,C1,h2,h3⟩:=at_T23 (Kd.R_reads' b6.out).2.2 0 p7 p8
            obtain rfl:b7 = t2:=(by injection C1)
            have H1:(0 < b0.length) = True:=eq_true (by omega)
            (try rw [show ((0:Int)).toNat = 0 from rfl] at h2)
            (try rw [show 0 * 2 = 0 from rfl] at h2)
            (try rw [Addr.add_zero'] at h2)
            (try rw [show ((0:Int)).toNat = 0 from rfl] at h3)
            (try rw [show 0 * 2 = 0 from rfl] at h3)
            (try rw [Addr.add_zero'] at h3)
            replace p7:=eq_true p7
            replace p8:=eq_true p8
            refine start_ (n:=7) (S:=fun w'=>w'.cell? ⟨b7.block,b7.off + 2,none⟩ = some (.int .i64 ((rd_T23 b0 1).f0)) ∧ w'.cell? ⟨b7.block,b7.off + 2 + 1,none⟩ = some (.int .i64 ((rd_T23 b0 1).f1)) ∧ w'.cell? b7 = some (.int .i64 ((rd_T23 b0 0).f0)) ∧ w'.cell? ⟨b7.block,b7.off + 1,none⟩ = some (.int .i64 ((rd_T23 b0 0).f1))) (ds:=[]) (ba 7 0) (by kernel_rfl) rfl rfl ⟨h0,h1,h2,h3⟩ (fun hHeld=>?_)
            generalize U2.drew = ba9 at b6 b1 b2 HB h0 h1 h2 h3 hHeld ⊢
            refine pr 0 193 1 ?_
            refine pr 1 194 3 ?_
            refine pr 3 196 11 ?_
            refine pr 4 197 27 ?_
            refine tr 2 195 31 hHeld ?_
            refine tr 5 198 63 hHeld ?_
            refine os 6 199 127 (fun K hK=>?_)
            refine gq Try.func30 #[.agg #[.int .i64 ((rd_T23 b0 1).f0),.int .i64 ((rd_T23 b0 1).f1)],.agg #[.int .i64 ((rd_T23 b0 0).f0),.int .i64 ((rd_T23 b0 0).f1)]] ?_
            with_reducible refine (numnahref07_Less.calls ((rd_T23 b0 1).f0) ((rd_T23 b0 1).f1) ((rd_T23 b0 0).f0) ((rd_T23 b0 0).f1) true _ N3.out).mono ?_
            rintro e bb0 ⟨rfl,hb⟩
            have q2:=(hb.cell (World.block_lt_of_cell? _ _ (hHeld.1))).trans (hHeld.1)
            have q3:=(hb.cell (World.block_lt_of_cell? _ _ (hHeld.2.1))).trans (hHeld.2.1)
            have q0:=(hb.cell (World.block_lt_of_cell? _ _ (hHeld.2.2.1))).trans (hHeld.2.2.1)
            have q1:=(hb.cell (World.block_lt_of_cell? _ _ (hHeld.2.2.2))).trans (hHeld.2.2.2)
            refine ⟨_,rfl,?_⟩
            replace b6:=rB b6 hb
            replace b1:=kB b1 hb
            replace b2:=kB b2 hb
            replace HB:=bB HB hb
            (try clear hb)
            refine hz hK (fun hHeld=>?_)
            clear hK K
            refine nq 199 ?_
            refine done_ (by kernel_rfl) ?_
            try go_wp2_with (first | (go_at_call 22;(with_reducible refine (numnahlaw07_awake.calls n5  n6 _ U1.out).mono ?_);rintro e bb1 ⟨rfl,hb⟩;replace b6:=rB b6 hb;replace b1:=kB b1 hb;replace b2:=kB b2 hb;replace HB:=bB HB hb;(try clear hb)))
            go_ret
            exact ⟨by first | rfl | (simp [errW_none,errW_some] <;> rfl) | (simp [*,errW_none,errW_some] <;> rfl),bl HB⟩
           replace D4:=Bool.eq_false_iff.mpr D4
           subst D4
           rw [if_neg (show ¬ (false = true) by decide)] at H
           by_cases t3:d9 = 0
           case neg =>
            rw [if_neg t3] at H
            have H2:(d9 == 0) = false:=beq_eq_false_iff_ne.mpr t3
            have H3:(d9 != 0) = true:=bne_iff_ne.mpr t3
            exact absurd ((Option.some.inj H).trans HRT.out) (by decide)
           rw [if_pos t3] at H
           have H2:(d9 == 0) = true:=beq_iff_eq.mpr t3
           have H3:(d9 != 0) = false:=bne_eq_false_iff_eq.mpr t3
           clear t3
           by_cases t4:e0 = 0
           case neg =>
            rw [if_neg t4] at H
            have H4:(e0 == 0) = false:=beq_eq_false_iff_ne.mpr t4
            have H5:(e0 != 0) = true:=bne_iff_ne.mpr t4
            exact absurd ((Option.some.inj H).trans HRT.out) (by decide)
           rw [if_pos t4] at H
           have H4:(e0 == 0) = true:=beq_iff_eq.mpr t4
           have H5:(e0 != 0) = false:=bne_eq_false_iff_eq.mpr t4
           clear t4
           replace H:=Option.bind_eq_some_iff.mp H
           obtain ⟨n7,E3,H⟩:=H
           replace H:(some n7) = some r:=H
           have U3:=A_ E3
           clear E3
           obtain rfl:=Option.some.inj H
           try go_wp2
           replace b6:=rD b6
           replace b1:=kD b1
           replace b2:=kD b2
           replace HB:=bD HB
           have m7:0 ≤ (0:Int):=(by omega)
           have m8:0 < (b0.length:Int):=of_decide_eq_true (by first | (with_reducible assumption) | assumption)
           obtain ⟨p3,r8,d3,d4⟩:=at_T23 (Kd.R_reads' b6.out).2.2 0 m7 m8
           obtain rfl:b7 = p3:=(by injection r8)
           have A9:(0 < b0.length) = True:=eq_true (by omega)
           (try rw [show ((0:Int)).toNat = 0 from rfl] at d3)
           (try rw [show 0 * 2 = 0 from rfl] at d3)
           (try rw [Addr.add_zero'] at d3)
           (try rw [show ((0:Int)).toNat = 0 from rfl] at d4)
           (try rw [show 0 * 2 = 0 from rfl] at d4)
           (try rw [Addr.add_zero'] at d4)
           replace m7:=eq_true m7
           replace m8:=eq_true m8
           have m9:0 ≤ (1:Int):=(by omega)
           have n0:1 < (b0.length:Int):=of_decide_eq_true (by first | (with_reducible assumption) | assumption)
           obtain ⟨p4,r9,d5,d6⟩:=at_T23 (Kd.R_reads' b6.out).2.2 1 m9 n0
           obtain rfl:b7 = p4:=(by injection r9)
           (try simp only [show (1:Int).toNat = 1 from rfl,Nat.reduceMul,Nat.reduceEqDiff,Go.Addr.add,↓reduceIte] at d5)
           (try simp only [show (1:Int).toNat = 1 from rfl,Nat.reduceMul,Nat.reduceEqDiff,Go.Addr.add,↓reduceIte] at d6)
           have B0:(1 < b0.length) = True:=eq_true (by omega)
           (try rw [show ((1:Int)).toNat = 1 from rfl] at d5)
           (try rw [show 1 * 2 = 2 from rfl] at d5)
           (try rw [show ((1:Int)).toNat = 1 from rfl] at d6)
           (try rw [show 1 * 2 = 2 from rfl] at d6)
           replace m9:=eq_true m9
           replace n0:=eq_true n0
           refine start_ (n:=7) (S:=fun w'=>w'.cell? b7 = some (.int .i64 ((rd_T23 b0 0).f0)) ∧ w'.cell? ⟨b7.block,b7.off + 1,none⟩ = some (.int .i64 ((rd_T23 b0 0).f1)) ∧ w'.cell? ⟨b7.block,b7.off + 2,none⟩ = some (.int .i64 ((rd_T23 b0 1).f0)) ∧ w'.cell? ⟨b7.block,b7.off + 2 + 1,none⟩ = some (.int .i64 ((rd_T23 b0 1).f1))) (ds:=[]) (ba 7 0) (by kernel_rfl) rfl rfl ⟨d3,d4,d5,d6⟩ (fun hHeld=>?_)
           generalize wc.drew = bb2 at b6 b1 b2 HB d3 d4 d5 d6 hHeld ⊢
           refine pr 0 186 1 ?_
           refine pr 1 187 3 ?_
           refine pr 3 189 11 ?_
           refine pr 4 190 27 ?_
           refine tr 2 188 31 hHeld ?_
           refine tr 5 191 63 hHeld ?_
           refine os 6 192 127 (fun K hK=>?_)
           refine gq Try.func30 #[.agg #[.int .i64 ((rd_T23 b0 0).f0),.int .i64 ((rd_T23 b0 0).f1)],.agg #[.int .i64 ((rd_T23 b0 1).f0),.int .i64 ((rd_T23 b0 1).f1)]] ?_
           with_reducible refine (numnahref07_Less.calls ((rd_T23 b0 0).f0) ((rd_T23 b0 0).f1) ((rd_T23 b0 1).f0) ((rd_T23 b0 1).f1) false _ G1.out).mono ?_
           rintro e U4 ⟨rfl,hb⟩
           have q2:=(hb.cell (World.block_lt_of_cell? _ _ (hHeld.1))).trans (hHeld.1)
           have q3:=(hb.cell (World.block_lt_of_cell? _ _ (hHeld.2.1))).trans (hHeld.2.1)
           have q0:=(hb.cell (World.block_lt_of_cell? _ _ (hHeld.2.2.1))).trans (hHeld.2.2.1)
           have q1:=(hb.cell (World.block_lt_of_cell? _ _ (hHeld.2.2.2))).trans (hHeld.2.2.2)
           refine ⟨_,rfl,?_⟩
           replace b6:=rB b6 hb
           replace b1:=kB b1 hb
           replace b2:=kB b2 hb
           replace HB:=bB HB hb
           (try clear hb)
           refine hz hK (fun hHeld=>?_)
           clear hK K
           refine nq 192 ?_
           refine done_ (by kernel_rfl) ?_
           try go_wp2
           replace b6:=rD b6
           replace b1:=kD b1
           replace b2:=kD b2
           replace HB:=bD HB
           have p5:0 ≤ (1:Int):=(by omega)
           have p6:1 < (b0.length:Int):=of_decide_eq_true (by first | (with_reducible assumption) | assumption)
           obtain ⟨t1,C0,h0,h1⟩:=at_T23 (Kd.R_reads' b6.out).2.2 1 p5 p6
           obtain rfl:b7 = t1:=(by injection C0)
           (try simp only [show (1:Int).toNat = 1 from rfl,Nat.reduceMul,Nat.reduceEqDiff,Go.Addr.add,↓reduceIte] at h0)
           (try simp only [show (1:Int).toNat = 1 from rfl,Nat.reduceMul,Nat.reduceEqDiff,Go.Addr.add,↓reduceIte] at h1)
           have H0:(1 < b0.length) = True:=eq_true (by omega)
           (try rw [show ((1:Int)).toNat = 1 from rfl] at h0)
           (try rw [show 1 * 2 = 2 from rfl] at h0)
           (try rw [show ((1:Int)).toNat = 1 from rfl] at h1)
           (try rw [show 1 * 2 = 2 from rfl] at h1)
           replace p5:=eq_true p5
           replace p6:=eq_true p6
           have p7:0 ≤ (0:Int):=(by omega)
           have p8:0 < (b0.length:Int):=of_decide_eq_true (by first | (with_reducible assumption) | assumption)
           obtain ⟨t2,C1,h2,h3⟩:=at_T23 (Kd.R_reads' b6.out).2.2 0 p7 p8
           obtain rfl:b7 = t2:=(by injection C1)
           have H1:(0 < b0.length) = True:=eq_true (by omega)
           (try rw [show ((0:Int)).toNat = 0 from rfl] at h2)
           (try rw [show 0 * 2 = 0 from rfl] at h2)
           (try rw [Addr.add_zero'] at h2)
           (try rw [show ((0:Int)).toNat = 0 from rfl] at h3)
           (try rw [show 0 * 2 = 0 from rfl] at h3)
           (try rw [Addr.add_zero'] at h3)
           replace p7:=eq_true p7
           replace p8:=eq_true p8
           refine start_ (n:=7) (S:=fun w'=>w'.cell? ⟨b7.block,b7.off + 2,none⟩ = some (.int .i64 ((rd_T23 b0 1).f0)) ∧ w'.cell? ⟨b7.block,b7.off + 2 + 1,none⟩ = some (.int .i64 ((rd_T23 b0 1).f1)) ∧ w'.cell? b7 = some (.int .i64 ((rd_T23 b0 0).f0)) ∧ w'.cell? ⟨b7.block,b7.off + 1,none⟩ = some (.int .i64 ((rd_T23 b0 0).f1))) (ds:=[]) (ba 7 0) (by kernel_rfl) rfl rfl ⟨h0,h1,h2,h3⟩ (fun hHeld=>?_)
           generalize U4.drew = bb3 at b6 b1 b2 HB h0 h1 h2 h3 hHeld ⊢
           refine pr 0 193 1 ?_
           refine pr 1 194 3 ?_
           refine pr 3 196 11 ?_
           refine pr 4 197 27 ?_
           refine tr 2 195 31 hHeld ?_
           refine tr 5 198 63 hHeld ?_
           refine os 6 199 127 (fun K hK=>?_)
           refine gq Try.func30 #[.agg #[.int .i64 ((rd_T23 b0 1).f0),.int .i64 ((rd_T23 b0 1).f1)],.agg #[.int .i64 ((rd_T23 b0 0).f0),.int .i64 ((rd_T23 b0 0).f1)]] ?_
           with_reducible refine (numnahref07_Less.calls ((rd_T23 b0 1).f0) ((rd_T23 b0 1).f1) ((rd_T23 b0 0).f0) ((rd_T23 b0 0).f1) false _ N3.out).mono ?_
           rintro e bb4 ⟨rfl,hb⟩
           have q2:=(hb.cell (World.block_lt_of_cell? _ _ (hHeld.1))).trans (hHeld.1)
           have q3:=(hb.cell (World.block_lt_of_cell? _ _ (hHeld.2.1))).trans (hHeld.2.1)
           have q0:=(hb.cell (World.block_lt_of_cell? _ _ (hHeld.2.2.1))).trans (hHeld.2.2.1)
           have q1:=(hb.cell (World.block_lt_of_cell? _ _ (hHeld.2.2.2))).trans (hHeld.2.2.2)
           refine ⟨_,rfl,?_⟩
           replace b6:=rB b6 hb
           replace b1:=kB b1 hb
           replace b2:=kB b2 hb
           replace HB:=bB HB hb
           (try clear hb)
           refine hz hK (fun hHeld=>?_)
           clear hK K
           refine nq 199 ?_
           refine done_ (by kernel_rfl) ?_
           try go_wp2_with (first | (go_at_call 22;(with_reducible refine (numnahlaw07_awake.calls n5  n7 _ U3.out).mono ?_);rintro e bb5 ⟨rfl,hb⟩;replace b6:=rB b6 hb;replace b1:=kB b1 hb;replace b2:=kB b2 hb;replace HB:=bB HB hb;(try clear hb)))
           go_ret
           exact ⟨by first | rfl | (simp [errW_none,errW_some] <;> rfl) | (simp [*,errW_none,errW_some] <;> rfl),bl HB⟩
end Go.Proofs.Ytjohcjfmlhihbaa.G
set_option linter.unusedSectionVars false
namespace Go.Proofs.Ytjohcjfmlhihbaa.P
open Go Go.RowKit Go.Proofs.Ytjohcjfmlhihbaa.G
open Go.Proofs.YtjohcjfmlhihbaaW.PrintWords Go.Proofs.YtjohcjfmlhihbaaW.PrintMore
theorem ev_Compare_no {p q:S23} (hp:inS p) (hq:inS q) (hno:¬ (smallS p ∧ smallS q)):Ev (fun k=>shares_Compare.f k p.f0 p.f1 q.f0 q.f1) (0,2):=by
 unfold shares_Compare.f
 have hy:=shares_no (w:=[p,q]) (by simp) (fun a ha=>by
  rcases List.mem_cons.1 ha with rfl | ha
  ·exact hp
  ·rw [List.mem_singleton.1 ha];exact hq) (fun h=>hno ⟨h.2 p (by simp),h.2 q (by simp)⟩)
 have hy':Ev (fun k=>shares_areShares.f k [⟨p.f0,p.f1⟩,⟨q.f0,q.f1⟩]) false:=hy
 exact Ev.bind hy' (Ev.now _)
theorem frac_end {w:List S23} (hl:w.length ≤ 11) (hin:∀ a ∈ w,inS a) (o:List S23) (i:Nat) (hi:o.length ≤ i) (hi2:i ≤ 1000):Ev (fun k=>numnahlaw07_SharesFractions.l2 k w o (i:Int)) true:=by
 by_cases h2:w.length < 2
 ·refine Ev.step (f:=fun k=>(numnahlaw07_awake.f k).bind fun t=>some t) (fun k=>?_) (Ev.bind ev_awake (Ev.now _))
  rw [numnahlaw07_SharesFractions.l2,if_neg (by omega),if_pos (by omega)]
 ·obtain ⟨p,q,w',rfl⟩:∃ p q w',w = p :: q :: w':=by
   match w,h2 with
   | [],h2=>simp at h2
   | [_],h2=>simp at h2
   | p :: q :: w',_=>exact ⟨p,q,w',rfl⟩
  have hp:=hin p (by simp)
  have hq:=hin q (by simp)
  have n0:(0:Int) < ((p :: q :: w').length:Int):=by simp;omega
  have n1:(1:Int) < ((p :: q :: w').length:Int):=by simp;omega
  have n2:¬ ((p :: q :: w').length:Int) < 2:=by simp;omega
  have n3:¬ (i:Int) < (o.length:Int):=by omega
  have r0:rd_T23 (p :: q :: w') 0 = p:=rfl
  have r1:rd_T23 (p :: q :: w') 1 = q:=rfl
  have sp:=ev_rsmall hp
  have sq:=ev_rsmall hq
  by_cases hs:smallS p ∧ smallS q
  ·obtain ⟨x,rfl,hx⟩:=small_q hs.1
   obtain ⟨y,rfl,hy⟩:=small_q hs.2
   rw [decide_eq_true hs.1] at sp
   rw [decide_eq_true hs.2] at sq
   have hc:=ev_Compare hx hy
   have l1:=rless (hx.fits hy (by decide) (by decide))
   have l2:=rless (hy.fits hx (by decide) (by decide))
   obtain ⟨K1,e1⟩:=sp
   obtain ⟨K2,e2⟩:=sq
   obtain ⟨K3,e3⟩:=hc
   obtain ⟨K4,e4⟩:=ev_awake
   refine ⟨K1 + K2 + K3 + K4 + 2,fun k hk=>?_⟩
   obtain ⟨m,rfl⟩:∃ m,k = m + 1 + 1:=⟨k - 2,by omega⟩
   have f1:=e1 (m + 1) (by omega)
   have f2:=e2 (m + 1) (by omega)
   have f3:=e3 (m + 1) (by omega)
   have f4:=e4 m (by omega)
   simp only [encQ] at f1 f2
   show numnahlaw07_SharesFractions.l2 (m + 1 + 1) _ _ _ = _
   rw [numnahlaw07_SharesFractions.l2,if_neg n3,if_neg n2,if_pos n0,if_pos n1,r0,r1]
   simp only [encQ,f1,f2,f3,Option.bind_some,if_true,Bool.not_true]
   simp only [encQ] at n0 n1 r0 r1
   rw [numnahlaw07_SharesFractions.j6,if_neg (by decide),if_pos n0,if_pos n1,r0,r1]
   simp only [l1,l2,Option.bind_some]
   unfold cmpR
   by_cases c1:x < y
   ·rw [decide_eq_true c1,if_pos rfl,if_pos (if_pos c1),if_pos trivial]
    simp only [f4,Option.bind_some]
   ·rw [decide_eq_false c1,if_neg (by decide)]
    by_cases c2:y < x
    ·rw [decide_eq_true c2,if_pos rfl,if_pos (by rw [if_neg c1,if_pos c2]),if_pos trivial]
     simp only [f4,Option.bind_some]
    ·rw [decide_eq_false c2,if_neg (by decide),if_pos (by rw [if_neg c1,if_neg c2]),if_pos trivial]
     simp only [f4,Option.bind_some]
  ·have hc:=ev_Compare_no hp hq hs
   obtain ⟨K1,e1⟩:=sp
   obtain ⟨K2,e2⟩:=sq
   obtain ⟨K3,e3⟩:=hc
   obtain ⟨K4,e4⟩:=ev_awake
   refine ⟨K1 + K2 + K3 + K4 + 2,fun k hk=>?_⟩
   obtain ⟨m,rfl⟩:∃ m,k = m + 1 + 1:=⟨k - 2,by omega⟩
   have f1:=e1 (m + 1) (by omega)
   have f2:=e2 (m + 1) (by omega)
   have f3:=e3 (m + 1) (by omega)
   have f4:=e4 m (by omega)
   have j6:numnahlaw07_SharesFractions.j6 (m + 1) (p :: q :: w') 0 2 true = some true:=by
    rw [numnahlaw07_SharesFractions.j6,if_pos rfl,if_pos rfl,if_pos rfl]
    simp only [f4,Option.bind_some]
   show numnahlaw07_SharesFractions.l2 (m + 1 + 1) _ _ _ = _
   rw [numnahlaw07_SharesFractions.l2,if_neg n3,if_neg n2,if_pos n0,if_pos n1,r0,r1]
   simp only [f1,f2,f3,Option.bind_some]
   by_cases c1:smallS p
   ·have c2:¬ smallS q:=fun c2=>hs ⟨c1,c2⟩
    rw [decide_eq_true c1,if_pos rfl,decide_eq_false c2]
    exact j6
   ·rw [decide_eq_false c1,if_neg (by decide)]
    exact j6
section
variable {x:List Rat} (hl:x.length ≤ 10) (hx:∀ q ∈ x,Sm 1000000 20 q) {y:List Rat} (hy:y.Perm x) (ho:y.Pairwise (· ≤ ·))
include hl hx hy ho
theorem frac_l3 {i:Nat} (hi:i < y.length) (next:Ev (fun k=>numnahlaw07_SharesFractions.l2 k (encL x) (encL y) ((i + 1:Nat):Int)) true) :
  ∀ (d j:Nat),j + d = x.length → Ev (fun k=>numnahlaw07_SharesFractions.l3 k (encL x) (encL y) (i:Int) (((x.take j).countP fun z=>decide (z < y[i]):Nat):Int) (((x.take j).countP fun z=>decide (z = y[i]):Nat):Int) (j:Int)) true:=by
 have hyl:=hy.length_eq
 intro d
 induction d with
 | zero =>
  intro j hj
  rw [List.take_of_length_le (by omega)]
  have hr:=rank ho hi
  rw [hy.countP_eq,hy.countP_eq] at hr
  have b1:x.countP (fun z=>decide (z < y[i])) ≤ x.length:=List.countP_le_length
  have b2:x.countP (fun z=>decide (z = y[i])) ≤ x.length:=List.countP_le_length
  refine Ev.step (fun k=>?_) next
  rw [numnahlaw07_SharesFractions.l3,encL_length,if_neg (by omega),if_neg (by omega),wrap_id (by omega) (by omega),if_neg (by omega),wrap_succ (by omega)]
 | succ d ih =>
  intro j hj
  have hjl:j < x.length:=by omega
  have sx:=hx _ (List.getElem_mem hjl)
  have sy:=hx _ (hy.mem_iff.1 (List.getElem_mem hi))
  have b1:(x.take j).countP (fun z=>decide (z < y[i])) ≤ (x.take j).length:=List.countP_le_length
  have b2:(x.take j).countP (fun z=>decide (z = y[i])) ≤ (x.take j).length:=List.countP_le_length
  have b3:(x.take j).length ≤ 10:=by rw [List.length_take];omega
  have hn:=ih (j + 1) (by omega)
  have t:=List.take_succ_eq_append_getElem hjl
  rw [t,List.countP_append,List.countP_append,List.countP_cons,List.countP_cons,List.countP_nil,List.countP_nil] at hn
  have start:∀ a b:Int,∀ k,numnahlaw07_SharesFractions.l3 (k + 1) (encL x) (encL y) (i:Int) a b (j:Int) = if ((x[j].num == y[i].num) && ((x[j].den:Int) == (y[i].den:Int))) = true then numnahlaw07_SharesFractions.l3 k (encL x) (encL y) (i:Int) a (wrap64 (b + 1)) ((j + 1:Nat):Int) else ((numnahref07_Small.f k y[i].num (y[i].den:Int)).bind fun t=>if t = true then ((numnahref07_Less.f x[j].num (x[j].den:Int) y[i].num (y[i].den:Int)).bind fun t2=>if t2 = true then numnahlaw07_SharesFractions.l3 k (encL x) (encL y) (i:Int) (wrap64 (a + 1)) b ((j + 1:Nat):Int) else numnahlaw07_SharesFractions.l3 k (encL x) (encL y) (i:Int) a b ((j + 1:Nat):Int)) else numnahlaw07_SharesFractions.l3 k (encL x) (encL y) (i:Int) a b ((j + 1:Nat):Int)):=by
   intro a b k
   rw [numnahlaw07_SharesFractions.l3,encL_length,encL_length,if_pos (by omega),if_pos (by omega),if_pos (by omega),if_pos (by omega),rdE hjl,rdE hi,wrap_succ (i:=j) (by omega)]
   rfl
  by_cases he:x[j] = y[i]
  ·rw [he] at hn
   rw [if_neg (by simp [Rat.lt_irrefl]),if_pos (by simp)] at hn
   refine Ev.step (start _ _) (Ev.congr (fun k=>if_pos (by rw [he];simp)) ?_)
   rw [wrap_succ (by omega)]
   exact hn
  ·have hsm:=ev_rsmall (a:=encQ y[i]) (by
    have s1:=sy.num
    have s2:=sy.den
    exact ⟨⟨by show _ ≤ y[i].num;omega,by show y[i].num ≤ _;omega⟩,⟨by show _ ≤ (y[i].den:Int);omega,by show (y[i].den:Int) ≤ _;omega⟩⟩)
   rw [decide_eq_true (q_small sy)] at hsm
   have hlt:=rless (sx.fits sy (by decide) (by decide))
   refine Ev.step (start _ _) (Ev.congr (fun k=>if_neg ?_) (Ev.bind hsm ?_))
   ·intro hc
    simp only [Bool.and_eq_true,beq_iff_eq] at hc
    exact he (Rat.ext hc.1 (by omega))
   ·simp only [hlt,Option.bind_some,if_true]
    rw [if_neg (show ¬ decide (x[j] = y[i]) = true by simpa using he)] at hn
    by_cases hl2:x[j] < y[i]
    ·rw [if_pos (decide_eq_true hl2)] at hn
     refine Ev.congr (fun k=>if_pos (decide_eq_true hl2)) ?_
     rw [wrap_succ (by omega)]
     exact hn
    ·rw [if_neg (by simpa using hl2)] at hn
     refine Ev.congr (fun k=>if_neg (by simpa using hl2)) ?_
     exact hn
theorem frac_l2:∀ (d i:Nat),i + d = y.length → Ev (fun k=>numnahlaw07_SharesFractions.l2 k (encL x) (encL y) (i:Int)) true:=by
 have hyl:=hy.length_eq
 have hin:∀ a ∈ encL x,inS a:=fun a ha=>by
  obtain ⟨q,hq,rfl⟩:=List.mem_map.1 ha
  have s1:=(hx q hq).num
  have s2:=(hx q hq).den
  exact ⟨⟨by show _ ≤ q.num;omega,by show q.num ≤ _;omega⟩,⟨by show _ ≤ (q.den:Int);omega,by show (q.den:Int) ≤ _;omega⟩⟩
 intro d
 induction d with
 | zero =>
  intro i hi
  exact frac_end (by rw [encL_length];omega) hin _ i (by rw [encL_length];omega) (by omega)
 | succ d ih =>
  intro i hi
  have h3:=frac_l3 hl hx hy ho (i:=i) (by omega) (ih (i + 1) (by omega)) x.length 0 (by omega)
  refine Ev.step (fun k=>?_) h3
  rw [numnahlaw07_SharesFractions.l2,encL_length,if_pos (by omega)]
  rfl
theorem frac_l1:∀ (d i:Nat),i + d = x.length → Ev (fun k=>numnahlaw07_SharesFractions.l1 k (encL x) 0 (encL y) 0 true (i:Int) (tot x).num ((tot x).den:Int) (tot (x.take i)).num ((tot (x.take i)).den:Int)) true:=by
 have hyl:=hy.length_eq
 intro d
 induction d with
 | zero =>
  intro i hi
  rw [List.take_of_length_le (by omega)]
  have h2:=frac_l2 hl hx hy ho y.length 0 (by omega)
  refine Ev.step (f:=fun k=>numnahlaw07_SharesFractions.j2 k (encL x) 0 (encL y) 0 true (tot x).num ((tot x).den:Int) (tot x).num ((tot x).den:Int)) (fun k=>?_) (Ev.step (f:=fun k=>numnahlaw07_SharesFractions.j3 k (encL x) (encL y)) (fun k=>?_) (Ev.step (fun k=>?_) h2))
  ·rw [numnahlaw07_SharesFractions.l1,encL_length,if_neg (by omega)]
  ·rw [numnahlaw07_SharesFractions.j2,if_pos rfl,if_neg (by simp),if_pos rfl,encL_length,encL_length,if_pos (by omega),if_pos rfl]
  ·rw [numnahlaw07_SharesFractions.j3];rfl
 | succ d ih =>
  intro i hi
  have hil:i < x.length:=by omega
  have s1:=part_smZ (x:=x.take i) (by rw [List.length_take];omega) (fun q hq=>hx q (List.mem_of_mem_take hq))
  have s2:=hx _ (List.getElem_mem hil)
  have e:tot (x.take i) + x[i] = tot (x.take (i + 1)):=by rw [List.take_succ_eq_append_getElem hil,tot_append,tot_cons,tot_nil];grind
  have e1:=ev_radd (s1.fits s2 (by decide) (by decide))
  rw [e] at e1
  obtain ⟨K1,e1⟩:=e1
  obtain ⟨K2,e2⟩:=ih (i + 1) (by omega)
  refine ⟨K1 + K2 + 1,fun k hk=>?_⟩
  obtain ⟨m,rfl⟩:∃ m,k = m + 1:=⟨k - 1,by omega⟩
  have f1:=e1 m (by omega)
  have f2:=e2 m (by omega)
  show numnahlaw07_SharesFractions.l1 (m + 1) _ _ _ _ _ _ _ _ _ _ = _
  rw [numnahlaw07_SharesFractions.l1,encL_length,if_pos (by omega),if_pos rfl,if_pos (by omega),rdE hil]
  simp only [encQ,f1,Option.bind_some]
  rw [wrap_succ (by omega)]
  exact f2
end
theorem frac_l0 {w:List S23} (hl:w.length ≤ 11) (hin:∀ a ∈ w,inS a) {e f:Int} {o:List S23} {a b c d0:Int} (next:Ev (fun k=>numnahlaw07_SharesFractions.l1 k w e o f (decide (w.length ≤ 10 ∧ ∀ a ∈ w,smallS a)) 0 a b c d0) true) :
  ∀ (d i:Nat) (v:Bool),i + d = w.length → (v = true ↔ w.length ≤ 10 ∧ ∀ a ∈ w.take i,smallS a) → Ev (fun k=>numnahlaw07_SharesFractions.l0 k w e o f v (i:Int) a b c d0) true:=by
 intro d
 induction d with
 | zero =>
  intro i v hi hv
  rw [List.take_of_length_le (by omega)] at hv
  have:v = decide (w.length ≤ 10 ∧ ∀ a ∈ w,smallS a):=by
   rw [Bool.eq_iff_iff,decide_eq_true_iff];exact hv
  rw [this]
  refine Ev.step (fun k=>?_) next
  rw [numnahlaw07_SharesFractions.l0,if_neg (by omega)]
 | succ d ih =>
  intro i v hi hv
  have hil:i < w.length:=by omega
  cases v with
  | false =>
   refine Ev.step (fun k=>?_) (ih (i + 1) false (by omega) ?_)
   ·rw [numnahlaw07_SharesFractions.l0,if_pos (by omega),if_neg (by decide),wrap_succ (by omega)]
   ·constructor
    ·intro h;cases h
    ·intro h
     exact hv.2 ⟨h.1,fun a ha=>h.2 a (by
      rw [List.take_succ_eq_append_getElem hil,List.mem_append];exact .inl ha)⟩
  | true =>
   have hs:=ev_rsmall (hin _ (List.getElem_mem hil))
   have hok:=hv.1 rfl
   have hn:=ih (i + 1) (decide (smallS w[i])) (by omega) (by
    rw [decide_eq_true_iff,List.take_succ_eq_append_getElem hil]
    constructor
    ·intro h
     exact ⟨hok.1,fun a ha=>by
      rw [List.mem_append,List.mem_singleton] at ha
      rcases ha with ha | rfl
      ·exact hok.2 a ha
      ·exact h⟩
    ·intro h;exact h.2 _ (List.mem_append.mpr (.inr (List.mem_singleton.mpr rfl))))
   obtain ⟨K1,e1⟩:=hs
   obtain ⟨K2,e2⟩:=hn
   refine ⟨K1 + K2 + 1,fun k hk=>?_⟩
   obtain ⟨m,rfl⟩:∃ m,k = m + 1:=⟨k - 1,by omega⟩
   have f1:=e1 m (by omega)
   have f2:=e2 m (by omega)
   show numnahlaw07_SharesFractions.l0 (m + 1) _ _ _ _ _ _ _ _ _ _ = _
   rw [numnahlaw07_SharesFractions.l0,if_pos (by omega),if_pos rfl,if_pos (by omega),rdT hil]
   simp only [f1,Option.bind_some]
   rw [wrap_succ (by omega)]
   exact f2
theorem fractions_pure (w0:List S23) (hin0:∀ a ∈ w0,inS a):∃ k,numnahlaw07_SharesFractions.f k w0 = some true:=by
 refine Ev.rounds ?_
 unfold numnahlaw07_SharesFractions.f
 simp only [fracs_f,Option.bind_some]
 obtain ⟨w,hw⟩:∃ w,w0.take 11 = w:=⟨_,rfl⟩
 have hwl:w.length ≤ 11:=by rw [← hw,List.length_take];omega
 have hin:∀ a ∈ w,inS a:=fun a ha=>hin0 a (by rw [← hw] at ha;exact List.mem_of_mem_take ha)
 rw [hw]
 have first:decide ((w.length:Int) ≤ 10) = true ↔ w.length ≤ 10 ∧ ∀ a ∈ w.take 0,smallS a:=by
  rw [decide_eq_true_iff]
  constructor
  ·intro h;exact ⟨by omega,fun a ha=>by simp at ha⟩
  ·intro h;omega
 by_cases hall:w.length ≤ 10 ∧ ∀ a ∈ w,smallS a
 ·obtain ⟨x,rfl,hx⟩:=small_list hall.2
  have hl:x.length ≤ 10:=by have:=hall.1;rwa [encL_length] at this
  obtain ⟨y,hy,ho,ey⟩:=ev_Sorted hl hx
  refine Ev.bind (ev_Sum hl hx) (Ev.bind ey ?_)
  simp only [numnahref07_Whole.f,Option.bind_some]
  refine frac_l0 hwl hin ?_ (encL x).length 0 _ (by omega) first
  rw [decide_eq_true hall]
  exact frac_l1 hl hx hy ho x.length 0 (by omega)
 ·have hsn:=shares_no (w:=w) (by omega) hin hall
  have e1:Ev (fun k=>shares_Sum.f k w) (0,0,2):=by
   unfold shares_Sum.f
   exact Ev.bind hsn (Ev.now _)
  have e2:Ev (fun k=>shares_Sorted.f k w) ([],2):=by
   unfold shares_Sorted.f
   exact Ev.bind hsn (Ev.now _)
  refine Ev.bind e1 (Ev.bind e2 ?_)
  simp only [numnahref07_Whole.f,Option.bind_some]
  refine frac_l0 hwl hin ?_ w.length 0 _ (by omega) first
  rw [decide_eq_false hall]
  have hend:=frac_end hwl hin [] 0 (by simp) (by omega)
  have hj:Ev (fun k=>numnahlaw07_SharesFractions.j2 k w 2 [] 2 false 0 0 0 1) true:=by
   refine Ev.step (f:=fun k=>numnahlaw07_SharesFractions.j3 k w []) (fun k=>?_) (Ev.step (fun k=>?_) hend)
   ·rw [numnahlaw07_SharesFractions.j2,if_neg (by decide),if_neg (by decide),if_pos rfl,if_pos (by simp),if_pos rfl]
   ·rw [numnahlaw07_SharesFractions.j3];rfl
  refine Ev.step (fun k=>?_) hj
  rw [numnahlaw07_SharesFractions.l1]
  by_cases h0:(0:Int) < (w.length:Int)
  ·rw [if_pos h0,if_neg (by decide)]
  ·rw [if_neg h0]
end Go.Proofs.Ytjohcjfmlhihbaa.P
