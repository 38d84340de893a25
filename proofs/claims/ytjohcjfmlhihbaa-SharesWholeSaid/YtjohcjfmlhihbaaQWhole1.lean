/- Several texts, joined. -/
import Derived.WalkKit
import Derived.ProofKit
import Derived.OpenShut
import Derived.ShutString
import Derived.ChangeOld
import Derived.ChangeSame
import Derived.Below
import Derived.SizedLaws
import Derived.KernelRfl
import Derived.Test.YtjohcjfmlhihbaaRows
import Derived.Test.YtjohcjfmlhihbaaQW2
namespace Go.Proofs.Ytjohcjfmlhihbaa.H
end Go.Proofs.Ytjohcjfmlhihbaa.H
namespace Go.Proofs.Ytjohcjfmlhihbaa.Row
end Go.Proofs.Ytjohcjfmlhihbaa.Row
set_option linter.unusedVariables false
set_option linter.unusedSimpArgs false
namespace Go.Proofs.Ytjohcjfmlhihbaa.Row
open Go Go.ChangeShapes Go.WideShapes Go.ChangeAt Go.RowKit Go.Proofs.Ytjohcjfmlhihbaa.G Go.Proofs.YtjohcjfmlhihbaaW.PrintWords
section
variable {H:Type} {enc:TypeId × Value → H} {w:World} {base:Nat} {spare:Nat → Bool} {held:Bool} {fuel:Nat} {cs:List Value} {x:DataW H × List MemPlace}
theorem open_list (h:DataW.trod enc Try.prog w base spare held fuel 28 cs = some x):∃ (A:Option Addr) (l:List Int) (c:Nat),cs = [.slice A l.length c] ∧ l.length ≤ c ∧ Kd.C (Kd.int .i64) w A l.length l:=by
 rcases open_ints Try.underlying28 Try.underlying3 (by kernel_rfl) h with ⟨rfl,_⟩ | ⟨a,len,cap,zs,rfl,_,hl,hm,hz,_,hcell,_⟩
 ·exact ⟨none,[],0,rfl,Nat.le_refl _,rfl,by decide,fun h=>by simp at h⟩
 ·have hzl:len ≤ zs.length:=by rw [hz];split <;> omega
  have hll:(zs.take len).length = len:=by rw [List.length_take];omega
  have hm':cap ≤ 9223372036854775807:=hm
  refine ⟨some a,zs.take len,cap,by rw [hll],by rw [hll];exact hl,rfl,by rw [hll];omega,fun _=>⟨a,rfl,fun j p hj=>?_⟩⟩
  rw [List.getElem?_take] at hj
  split at hj
  ·refine ⟨[.int .i64 p],rfl,rfl,fun i u hu=>?_⟩
   rcases i with _ | i
   ·simp only [List.getElem?_cons_zero,Option.some.injEq] at hu
    subst hu
    have hjl:=(List.getElem?_eq_some_iff.1 hj).1
    have:=hcell j hjl
    rw [List.getD_eq_getElem?_getD,hj,Option.getD_some] at this
    show w.cell? (a.add (j * 1 + 0)) = _
    rw [Nat.mul_one,Nat.add_zero]
    exact this
   ·simp at hu
  ·cases hj
set_option maxRecDepth 100000 in
theorem open_list1 {r:Reach} {b0:Nat} {v:Value} {d:DataW H} {p:List MemPlace} (hv:Value.okWide Try.prog w r b0 28 v) (h:DataW.Trod enc Try.prog w base spare held 28 v d p):∃ (A:Option Addr) (l:List Int) (c:Nat),v = .slice A l.length c ∧ l.length ≤ c ∧ Kd.C (Kd.int .i64) w A l.length l:=by
 obtain ⟨A,len,cap,rfl⟩:=okWide_slice Try.underlying28 hv
 obtain ⟨m,hm⟩:=h
 obtain ⟨A',l,c,e,r⟩:=open_list hm
 have e2:[Value.slice A len cap] = [.slice A' l.length c]:=e
 injection e2 with e2 _
 exact ⟨A',l,c,e2,r⟩
end
end Go.Proofs.Ytjohcjfmlhihbaa.Row
namespace Go.Proofs.Ytjohcjfmlhihbaa.P
open Go Go.RowKit Go.Proofs.Ytjohcjfmlhihbaa.G
open Go.Proofs.YtjohcjfmlhihbaaW.PrintWords Go.Proofs.YtjohcjfmlhihbaaW.PrintMore
theorem rd_get {l:List Int} {i:Nat} (h:i < l.length):rd l (i:Int) = l[i]:=by unfold rd;simp [h]
theorem wrap_succ {i:Nat} (h:i < 9223372036854775807):wrap64 ((i:Int) + 1) = ((i + 1:Nat):Int):=by unfold wrap64;omega
def sI (l:List Int):Int:=l.foldr (· + ·) 0
theorem sI_cons (a:Int) (l:List Int):sI (a :: l) = a + sI l:=rfl
structure IsCl (l:List Int):Prop where
 one:1 ≤ l.length
 ten:l.length ≤ 10
 mem:∀ x ∈ l,0 ≤ x ∧ x ≤ 1000
instance (l:List Int):Decidable (IsCl l):=decidable_of_iff (1 ≤ l.length ∧ l.length ≤ 10 ∧ ∀ x ∈ l,0 ≤ x ∧ x ≤ 1000) ⟨fun h=>⟨h.1,h.2.1,h.2.2⟩,fun h=>⟨h.1,h.2,h.3⟩⟩
end Go.Proofs.Ytjohcjfmlhihbaa.P
namespace Go.Proofs.Ytjohcjfmlhihbaa.G
open Go.RowKit Go.Proofs.YtjohcjfmlhihbaaW.PrintWords Go.Proofs.YtjohcjfmlhihbaaW.PrintLast Go.Proofs.YtjohcjfmlhihbaaW.PrintMore
set_option maxHeartbeats 8000000
set_option maxRecDepth 100000
attribute [local go_sem] cond_true cond_false fld23_0 fld23_1 fld45_0 fld45_1 fld109_0 fld109_1 fld94_0 fld94_1 max2_int min2_int max_two min_two max_three min_three max_four min_four   -- for this text's walks alone
def numnahref07_Whole.f (a0:Int):Option (Int × Int):=some (a0,1)
theorem numnahref07_Whole.calls (a0:Int) (r1:Int) (r2:Int) (w:World) (h:numnahref07_Whole.f a0 = some (r1,r2)) :
  Calls Try.prog 23 #[.int .i64 a0] w fun e w'=>e = .returned (.agg #[.int .i64 r1,.int .i64 r2]) ∧ Below w.heap.size w w':=by
 have d0:=Try.underlying23
 have HB:=Aside0.mk (Below.refl w.heap.size w)
 have H:(some (a0,1)) = some (r1,r2):=h
 clear h
 simp only [Option.some.injEq,Prod.mk.injEq] at H
 obtain ⟨rfl,rfl⟩:=H
 go_enter Try.func23,Try.ntmps23
 go_wp2_with (first | ((with_reducible refine gate_dst (N:=2) rfl ?_);refine box_event ?hg (N:=2) ?hd (cs:=#[.int .i64 0,.int .i64 0]) (t:=23) ?hr ?_;(case hd=>rfl);(case hg=>rfl);(case hr=>first | (go_simp;done) | (go_simp;rfl));intro b0 hg w2 hbox hb;have b7:=Aside0.mk (below_step (by repeat (first | (with_reducible first | exact HB.out | apply below_alloc | apply pw_below_drewN | apply below_drew1) | exact HB.out)) hb);have b8:=Aside0.mk (hbox);have b9:=Aside0.mk ((by rw [hg];exact (below_size (by repeat (first | (with_reducible first | exact HB.out | apply below_alloc | apply pw_below_drewN | apply below_drew1) | exact HB.out))):w.heap.size ≤ b0));have c0:=Aside0.mk ((by rw [hg];exact (below_size (by repeat (first | (with_reducible first | exact HB.out | apply below_alloc | apply pw_below_drewN | apply below_drew1) | exact HB.out))):w.heap.size ≤ b0));clear HB;have HB:=b7;have b1:=b8;have c1:=b9;have b2:=c0;clear b7 b8 b9 c0;clear hb hbox hg;have b3:w2.cell? ⟨b0,0,none⟩ = some (.int .i64 0):=(blk_cell b1.out 0).trans rfl;have b4:w2.cell? ⟨b0,1,none⟩ = some (.int .i64 0):=(blk_cell b1.out 1).trans rfl;have b5:=blk_frozen b1.out 0;have b6:=blk_frozen b1.out 1))
 refine bodyPost_ret (results_cell_row rfl _ _ b0 23 #[.int .i64 a0,.int .i64 1] (0,0) _ rfl (by (with_reducible repeat (first | refine blk_drewN ?_ _ | refine blk_drew ?_ | refine blk_alloc ?_ _));refine blk_put (cs:=#[.int .i64 a0,.int .i64 0]) ?_ 1 _ rfl;(with_reducible repeat (first | refine blk_drewN ?_ _ | refine blk_drew ?_ | refine blk_alloc ?_ _));refine blk_put (cs:=#[.int .i64 0,.int .i64 0]) ?_ 0 _ rfl;(with_reducible repeat (first | refine blk_drewN ?_ _ | refine blk_drew ?_ | refine blk_alloc ?_ _));exact b1.out) Try.underlying23 rfl (by kernel_rfl)) rfl ?_
 exact ⟨by first | rfl | (simp [errW_none,errW_some] <;> rfl) | (simp [*,errW_none,errW_some] <;> rfl),by repeat (first | (with_reducible first | exact HB.out | apply below_alloc | apply pw_below_drewN | apply below_drew1 | refine below_set ?_ b2.out) | exact HB.out)⟩
end Go.Proofs.Ytjohcjfmlhihbaa.G
namespace Go.Proofs.Ytjohcjfmlhihbaa.P
open Go Go.RowKit Go.Proofs.Ytjohcjfmlhihbaa.G
open Go.Proofs.YtjohcjfmlhihbaaW.PrintWords Go.Proofs.YtjohcjfmlhihbaaW.PrintMore
structure Sm (A D:Nat) (q:Rat):Prop where
 num:q.num.natAbs ≤ A
 den:q.den ≤ D
theorem Sm.mono {A D B E:Nat} {q:Rat} (h:Sm A D q) (h1:A ≤ B) (h2:D ≤ E):Sm B E q:=⟨Nat.le_trans h.num h1,Nat.le_trans h.den h2⟩
theorem Sm.int {A:Nat} {n:Int} (h:n.natAbs ≤ A):Sm A 1 (n:Rat):=⟨by rw [whole_num];exact h,by rw [whole_den];exact Nat.le_refl _⟩
theorem Sm.zero:Sm 0 1 (0:Rat):=⟨Nat.le_refl _,Nat.le_refl _⟩
theorem Sm.add {A D B E:Nat} {p q:Rat} (h:Sm A D p) (k:Sm B E q):Sm (A * E + B * D) (D * E) (p + q) :=
 ⟨Nat.le_trans (add_num_le p q) (Nat.add_le_add (Nat.mul_le_mul h.num k.den) (Nat.mul_le_mul k.num h.den)),
  Nat.le_trans (Nat.le_of_dvd (Nat.mul_pos (den_pos p) (den_pos q)) (add_den_dvd p q)) (Nat.mul_le_mul h.den k.den)⟩
theorem Sm.half {A D:Nat} {q:Rat} (h:Sm A D q):Sm A (D * 2) (q / 2):=by
 have e:q / 2 = mkRat q.num (q.den * 2):=(mk_over q (n:=2) (by omega)).symm
 rw [e]
 exact ⟨Nat.le_trans (num_le _ _) h.num,Nat.le_trans (den_le (by have:=den_pos q;omega)) (Nat.mul_le_mul_right _ h.den)⟩
theorem Sm.fits {A D B E:Nat} {p q:Rat} (h:Sm A D p) (k:Sm B E q) (h1:A * E + B * D < 9223372036854775808) (h2:D * E < 9223372036854775808):Fits p q :=
 ⟨Nat.lt_of_le_of_lt (Nat.add_le_add (Nat.mul_le_mul h.num k.den) (Nat.mul_le_mul k.num h.den)) h1,Nat.lt_of_le_of_lt (Nat.mul_le_mul h.den k.den) h2⟩
end Go.Proofs.Ytjohcjfmlhihbaa.P
namespace Go.Proofs.Ytjohcjfmlhihbaa.P
open Go Go.RowKit Go.Proofs.Ytjohcjfmlhihbaa.G
open Go.Proofs.YtjohcjfmlhihbaaW.PrintWords Go.Proofs.YtjohcjfmlhihbaaW.PrintMore
def encQ (q:Rat):S23:=⟨q.num,(q.den:Int)⟩
def encL (l:List Rat):List S23:=l.map encQ
theorem encL_length (l:List Rat):(encL l).length = l.length:=List.length_map _
theorem rdE {l:List Rat} {i:Nat} (h:i < l.length):rd_T23 (encL l) (i:Int) = encQ l[i]:=by
 unfold rd_T23 encL
 simp [h]
section
variable {q:List Rat} (hf:∀ x ∈ q,∀ y ∈ q,Fits x y) (hn:q.length < 20)
structure On (q:List Rat) (σ:List Nat) (m j:Nat):Prop where
 perm:σ.Perm (List.range q.length)
 ord:∀ a b,a < b → b < m → b ≠ j → q.getD (σ.getD a 0) 0 ≤ q.getD (σ.getD b 0) 0
theorem On.len {q:List Rat} {σ:List Nat} {m j:Nat} (h:On q σ m j):σ.length = q.length:=by rw [h.perm.length_eq,List.length_range]
end
end Go.Proofs.Ytjohcjfmlhihbaa.P
namespace Go.Proofs.Ytjohcjfmlhihbaa.P
open Go Go.RowKit Go.Proofs.Ytjohcjfmlhihbaa.G
open Go.Proofs.YtjohcjfmlhihbaaW.PrintWords Go.Proofs.YtjohcjfmlhihbaaW.PrintMore
def fac:Nat → Nat
 | 0=>1
 | n + 1=>(n + 1) * fac n
theorem fac_pos:∀ n,1 ≤ fac n
 | 0=>Nat.le_refl _
 | n + 1=>by rw [fac];exact Nat.mul_pos (by omega) (fac_pos n)
structure OkE (E:Rat) (D left:Nat):Prop where
 lo:0 ≤ E
 hi:E ≤ ((10000:Nat):Rat)
 den:E.den ∣ D
 two:2 ∣ D
 pos:0 < D
 small:D * fac left ≤ 7257600
structure OkC (c:Rat):Prop where
 lo:0 ≤ c
 hi:c ≤ ((1000:Nat):Rat)
 den:c.den ∣ 2
theorem num_abs {q:Rat} {B D:Nat} (h0:0 ≤ q) (h1:q ≤ (B:Rat)) (hd:q.den ≤ D):q.num.natAbs ≤ B * D:=by
 have:=num_of h0 h1 hd
 omega
theorem OkC.sm {c:Rat} (h:OkC c):Sm 2000 2 c:=⟨num_abs h.lo h.hi (den_le_of_dvd h.den (by omega)),den_le_of_dvd h.den (by omega)⟩
theorem OkE.le {E:Rat} {D left:Nat} (h:OkE E D left):D ≤ 7257600:=by
 have h1:=h.small
 have h2:D * 1 ≤ D * fac left:=Nat.mul_le_mul_left _ (fac_pos left)
 omega
theorem OkE.sm {E:Rat} {D left:Nat} (h:OkE E D left):Sm 72576000000 7257600 E:=by
 have hd:=Nat.le_trans (den_le_of_dvd h.den h.pos) h.le
 exact ⟨num_abs h.lo h.hi hd,hd⟩
theorem over_den (E:Rat) {n:Nat} (hn:0 < n):(E / (n:Rat)).den ∣ E.den * n:=by
 rw [← mk_over E hn]
 exact den_dvd _ (Nat.ne_of_gt (Nat.mul_pos (den_pos E) hn))
theorem nat_pos_rat {n:Nat} (h:0 < n):(0:Rat) < (n:Rat):=Rat.natCast_pos.2 h
theorem over_le {E:Rat} {n:Nat} (hn:0 < n) (h:0 ≤ E):0 ≤ E / (n:Rat) ∧ E / (n:Rat) ≤ E:=by
 have hp:=nat_pos_rat hn
 have h1:(1:Rat) ≤ (n:Rat):=by
  have:((1:Nat):Rat) ≤ (n:Rat):=Rat.natCast_le_natCast.2 hn
  simpa using this
 have hm:E / (n:Rat) * (n:Rat) = E:=Rat.div_mul_cancel (by grind)
 have h0:0 ≤ E / (n:Rat):=by
  refine Rat.le_of_mul_le_mul_right (c:=(n:Rat)) ?_ hp
  rw [hm];grind
 refine ⟨h0,?_⟩
 have:=Rat.mul_le_mul_of_nonneg_left h1 h0
 rw [hm] at this
 grind
section
variable {E c:Rat} {D n:Nat} (h:OkE E D (n + 1)) (hc:OkC c)
include h
theorem eqD:D * (n + 1) * fac n ≤ 7257600:=by
 have:=h.small
 rw [fac] at this
 rw [Nat.mul_assoc];exact this
theorem over_dvd:(E / ((n + 1:Nat):Rat)).den ∣ D * (n + 1):=Nat.dvd_trans (over_den E (by omega)) (Nat.mul_dvd_mul_right h.den _)
end
section
variable {E c:Rat} {D n:Nat} (h:OkE E D (n + 1)) (hc:OkC c)
include h hc
theorem min_dvd:(min c (E / ((n + 1:Nat):Rat))).den ∣ D * (n + 1):=by
 rw [Rat.min_def]
 split
 ·exact Nat.dvd_trans (Nat.dvd_trans hc.den h.two) (Nat.dvd_mul_right _ _)
 ·exact over_dvd h
theorem min_lohi:0 ≤ min c (E / ((n + 1:Nat):Rat)) ∧ min c (E / ((n + 1:Nat):Rat)) ≤ E:=by
 have hl:=over_le (n:=n + 1) (by omega) h.lo
 have:=hc.lo
 rw [Rat.min_def]
 split <;> grind
theorem OkE.next:OkE (E - min c (E / ((n + 1:Nat):Rat))) (D * (n + 1)) n:=by
 have hl:=min_lohi h hc
 exact ⟨by grind,by have:=h.hi;grind,sub_den_dvd' (Nat.dvd_trans h.den (Nat.dvd_mul_right _ _)) (min_dvd h hc) (Nat.mul_pos h.pos (by omega)),Nat.dvd_trans h.two (Nat.dvd_mul_right _ _),Nat.mul_pos h.pos (by omega),eqD h⟩
end
end Go.Proofs.Ytjohcjfmlhihbaa.P
namespace Go.Proofs.Ytjohcjfmlhihbaa.P
open Go Go.RowKit Go.Proofs.Ytjohcjfmlhihbaa.G
open Go.Proofs.YtjohcjfmlhihbaaW.PrintWords Go.Proofs.YtjohcjfmlhihbaaW.PrintMore
theorem tot_den {D:Nat} (h0:0 < D):∀ {l:List Rat},(∀ c ∈ l,c.den ∣ D) → (tot l).den ∣ D
 | [],_=>Nat.one_dvd _
 | a :: l,h=>add_den_dvd' (h a (by simp)) (tot_den h0 (fun c hc=>h c (List.mem_cons_of_mem _ hc))) h0
theorem tot_min (L:Rat):∀ l:List Rat,tot (l.map fun c=>min c L) = tot (l.map fun c=>if c ≤ L then c else 0) + ((l.countP fun c=>decide (L < c):Nat):Rat) * L
 | []=>by simp [tot_nil];grind
 | a :: l=>by
  rw [List.map_cons,List.map_cons,tot_cons,tot_cons,tot_min L l,List.countP_cons,Rat.min_def]
  by_cases h:a ≤ L
  ·have h':¬ L < a:=by grind
   rw [if_pos h,if_pos h,if_neg (by simpa using h')]
   push_cast;grind
  ·have h':L < a:=by grind
   rw [if_neg h,if_neg h,if_pos (by simpa using h')]
   push_cast;grind
theorem IsEq.den {l:List Rat} {E:Rat} {x:List Rat} (h:IsEq l E x) {D:Nat} (h0:0 < D) (hl:∀ c ∈ l,c.den ∣ D) (hE:E.den ∣ D):∀ y ∈ x,∃ m,1 ≤ m ∧ m ≤ l.length ∧ y.den ∣ D * m:=by
 obtain ⟨L,rfl,ht⟩:=h
 intro y hy
 obtain ⟨c,hc,rfl⟩:=List.mem_map.1 hy
 have hlen:1 ≤ l.length:=List.length_pos_iff.2 (List.ne_nil_of_mem hc)
 rw [Rat.min_def]
 by_cases h1:c ≤ L
 ·rw [if_pos h1]
  exact ⟨1,Nat.le_refl _,hlen,by rw [Nat.mul_one];exact hl c hc⟩
 ·rw [if_neg h1]
  obtain ⟨m,hm⟩:∃ m,l.countP (fun c=>decide (L < c)) = m:=⟨_,rfl⟩
  have hm1:1 ≤ m:=by
   rw [← hm]
   exact List.countP_pos_iff.2 ⟨c,hc,by simp;grind⟩
  have hm2:m ≤ l.length:=by rw [← hm];exact List.countP_le_length
  rw [tot_min,hm] at ht
  have hS:(tot (l.map fun c=>if c ≤ L then c else 0)).den ∣ D:=tot_den h0 (fun z hz=>by
   obtain ⟨d,hd,rfl⟩:=List.mem_map.1 hz
   split
   ·exact hl d hd
   ·exact Nat.one_dvd _)
  have hp:=nat_pos_rat (n:=m) (by omega)
  have hL:L = (E - tot (l.map fun c=>if c ≤ L then c else 0)) / (m:Rat):=by
   rw [← ht]
   have:(tot (l.map fun c=>if c ≤ L then c else 0) + (m:Rat) * L - tot (l.map fun c=>if c ≤ L then c else 0)) = L * (m:Rat):=by grind
   rw [this]
   exact (Rat.mul_div_cancel (by grind)).symm
  refine ⟨m,hm1,hm2,?_⟩
  rw [hL]
  exact Nat.dvd_trans (over_den _ (by omega)) (Nat.mul_dvd_mul_right (sub_den_dvd' hE hS h0) _)
def cl (l:List Int):List Rat:=l.map fun n:Int=>(n:Rat)
theorem tot_cl (l:List Int):tot (cl l) = (sI l:Rat):=cast_sum l
end Go.Proofs.Ytjohcjfmlhihbaa.P
namespace Go.Proofs.Ytjohcjfmlhihbaa.P
open Go Go.RowKit Go.Proofs.Ytjohcjfmlhihbaa.G
open Go.Proofs.YtjohcjfmlhihbaaW.PrintWords Go.Proofs.YtjohcjfmlhihbaaW.PrintMore
theorem S_single {m j:Nat} (hj:j < m) (r:Rat):S m (fun u=>if u = j then r else 0) = r:=by
 induction m with
 | zero=>omega
 | succ m ih =>
  unfold S
  rw [List.range_succ,List.map_append,tot_append]
  by_cases h:j = m
  ·subst h
   have:tot ((List.range j).map fun u=>if u = j then r else 0) = 0:=S_zero (m:=j) (fun u hu=>by rw [if_neg (by omega)])
   rw [this]
   simp only [List.map_cons,List.map_nil,tot_cons,tot_nil,if_true]
   grind
  ·have:=ih (by omega)
   unfold S at this
   rw [this]
   simp only [List.map_cons,List.map_nil,tot_cons,tot_nil]
   rw [if_neg (fun e=>h e.symm)]
   grind
theorem S_update {m j:Nat} (hj:j < m) {f g:Nat → Rat} (h:∀ u,u < m → u ≠ j → g u = f u):S m g = S m f + (g j - f j):=by
 have e:S m (fun u=>g u - f u) = S m (fun u=>if u = j then g j - f j else 0):=S_congr fun u hu=>by
  by_cases hu2:u = j
  ·subst hu2;rw [if_pos rfl]
  ·rw [if_neg hu2,h u hu hu2];grind
 rw [S_sub,S_single hj] at e
 grind
structure Rq (l:List Int) (E e:Int) (done:List Bool) (left:Nat) (out:List S23):Prop where
 dl:done.length = l.length
 ol:out.length = l.length
 cnt:(left:Rat) = S l.length (fun i=>if done.getD i false then 0 else 1)
 est:(e:Rat) = (E:Rat) - S l.length (fun i=>if done.getD i false then ((l.getD i 0:Int):Rat) else 0)
 e0:0 ≤ e
 eb:e ≤ 20000
 lb:left ≤ 10
 ok:∀ i,i < l.length → done.getD i false = true → l.getD i 0 * (left:Int) ≤ e ∧ out.getD i z23 = encQ ((l.getD i 0:Int):Rat)
section
variable {l:List Int} (h:IsCl l) {E:Int}
include h
theorem Rq.next {e:Int} {done:List Bool} {left:Nat} {out:List S23} (s:Rq l E e done (left + 1) out) {j:Nat} (hj:j < l.length) (hd:done.getD j false = false) (hc:l.getD j 0 * ((left + 1:Nat):Int) ≤ e) :
  Rq l E (e - l.getD j 0) (done.set j true) left (out.set j (encQ ((l.getD j 0:Int):Rat))):=by
 have hg:l.getD j 0 = l[j]:=by simp [hj]
 have hm:=h.mem _ (List.getElem_mem hj)
 rw [← hg] at hm
 have gd:∀ u,(done.set j true).getD u false = if u = j then true else done.getD u false:=by
  intro u
  simp only [List.getD_eq_getElem?_getD,List.getElem?_set]
  by_cases e1:u = j
  ·subst e1;simp [s.dl,hj]
  ·rw [if_neg (fun e=>e1 e.symm),if_neg e1]
 have go:∀ u,(out.set j (encQ ((l.getD j 0:Int):Rat))).getD u z23 = if u = j then encQ ((l.getD j 0:Int):Rat) else out.getD u z23:=by
  intro u
  simp only [List.getD_eq_getElem?_getD,List.getElem?_set]
  by_cases e1:u = j
  ·subst e1;simp [s.ol,hj]
  ·rw [if_neg (fun e=>e1 e.symm),if_neg e1]
 have hc2:l.getD j 0 * (left:Int) + l.getD j 0 ≤ e:=by
  have:l.getD j 0 * ((left + 1:Nat):Int) = l.getD j 0 * (left:Int) + l.getD j 0:=by push_cast;rw [Int.mul_add,Int.mul_one]
  omega
 have hpos:0 ≤ l.getD j 0 * (left:Int):=Int.mul_nonneg hm.1 (by omega)
 refine ⟨by rw [List.length_set];exact s.dl,by rw [List.length_set];exact s.ol,?_,?_,by omega,by have:=s.eb;omega,by have:=s.lb;omega,fun i hi hid=>?_⟩
 ·have hu:=S_update hj (f:=fun i=>if done.getD i false then (0:Rat) else 1) (g:=fun i=>if (done.set j true).getD i false then 0 else 1) (fun u _ hu=>by simp only [gd,if_neg hu])
  rw [hu,← s.cnt]
  simp only [gd,if_true,hd,Bool.false_eq_true,if_false]
  push_cast;grind
 ·have hu:=S_update hj (f:=fun i=>if done.getD i false then ((l.getD i 0:Int):Rat) else 0) (g:=fun i=>if (done.set j true).getD i false then ((l.getD i 0:Int):Rat) else 0) (fun u _ hu=>by simp only [gd,if_neg hu])
  rw [hu]
  simp only [gd,if_true,hd,Bool.false_eq_true,if_false]
  have:=s.est
  push_cast
  grind
 ·rw [gd] at hid
  rw [go]
  by_cases e1:i = j
  ·subst e1
   rw [if_pos rfl]
   exact ⟨by omega,rfl⟩
  ·rw [if_neg e1] at hid ⊢
   obtain ⟨k1,k2⟩:=s.ok i hi hid
   refine ⟨?_,k2⟩
   have hi2:l.getD i 0 * ((left + 1:Nat):Int) = l.getD i 0 * (left:Int) + l.getD i 0:=by push_cast;rw [Int.mul_add,Int.mul_one]
   rw [hi2] at k1
   have a1:(l.getD i 0 * (left:Int) + l.getD i 0) * (left:Int) ≤ e * (left:Int):=Int.mul_le_mul_of_nonneg_right k1 (by omega)
   by_cases hl0:left = 0
   ·subst hl0
    have:l.getD i 0 * ((0:Nat):Int) = 0:=by simp
    omega
   ·-- (left + 1) * (c_i * left) ≤ e * left ≤ (left + 1) * (e - c_j)
    have a2:e * (left:Int) ≤ ((left:Int) + 1) * (e - l.getD j 0):=by
     have:((left:Int) + 1) * (e - l.getD j 0) = e * (left:Int) + e - (l.getD j 0 * (left:Int) + l.getD j 0):=by grind
     omega
    have a3:(l.getD i 0 * (left:Int) + l.getD i 0) * (left:Int) = ((left:Int) + 1) * (l.getD i 0 * (left:Int)):=by grind
    rw [a3] at a1
    exact Int.le_of_mul_le_mul_left (Int.le_trans a1 a2) (by omega)
end
end Go.Proofs.Ytjohcjfmlhihbaa.P
set_option linter.unusedSectionVars false
namespace Go.Proofs.Ytjohcjfmlhihbaa.P
open Go Go.RowKit Go.Proofs.Ytjohcjfmlhihbaa.G
open Go.Proofs.YtjohcjfmlhihbaaW.PrintWords Go.Proofs.YtjohcjfmlhihbaaW.PrintMore
theorem awake_now:numnahlaw07_awake.f 60 = some true:=by kernel_rfl
theorem ev_awake:Ev (fun k=>numnahlaw07_awake.f k) true:=Ev.of (fun k=>numnahlaw07_awake.mono k) awake_now
end Go.Proofs.Ytjohcjfmlhihbaa.P
namespace Go.Proofs.Ytjohcjfmlhihbaa.G
open Go.RowKit Go.Proofs.YtjohcjfmlhihbaaW.PrintWords Go.Proofs.YtjohcjfmlhihbaaW.PrintLast Go.Proofs.YtjohcjfmlhihbaaW.PrintMore
set_option maxHeartbeats 8000000
set_option maxRecDepth 100000
attribute [local go_sem] cond_true cond_false fld23_0 fld23_1 fld45_0 fld45_1 fld109_0 fld109_1 fld94_0 fld94_1 max2_int min2_int max_two min_two max_three min_three max_four min_four   -- for this text's walks alone
def numnahlaw07_mod.f (a0:Int) (a1:Int):Option (Int):=if (IntKind.u64.wrap (a1)) = 0 then (none) else (some (wrap64 (Int.tmod (IntKind.u64.wrap (a0)) (IntKind.u64.wrap (a1)))))
theorem numnahlaw07_mod.calls (a0:Int) (a1:Int) (r:Int) (w:World) (h:numnahlaw07_mod.f a0 a1 = some r) :
  Calls Try.prog 29 #[.int .i64 a0,.int .i64 a1] w fun e w'=>e = .returned (.int .i64 r) ∧ Drawn0 w w':=by
 have H:(if (IntKind.u64.wrap (a1)) = 0 then (none) else (some (wrap64 (Int.tmod (IntKind.u64.wrap (a0)) (IntKind.u64.wrap (a1)))))) = some r:=h
 clear h
 by_cases c3:(IntKind.u64.wrap (a1)) = 0
 ·rw [if_pos c3] at H
  exact absurd H (by simp)
 rw [if_neg c3] at H
 have b0:((IntKind.u64.wrap (a1)) == 0) = false:=beq_eq_false_iff_ne.mpr c3
 have b1:((IntKind.u64.wrap (a1)) != 0) = true:=bne_iff_ne.mpr c3
 obtain rfl:=Option.some.inj H
 go_enter Try.func29,Try.ntmps29
 go_wp2
 go_ret
 exact ⟨by first | rfl | (simp;done) | (simp [*];done),by repeat (first | exact Drawn0.refl _ | apply Drawn0.step)⟩
def numnahlaw07_fit.l0:Nat → List (S23) → Int → Option (Bool)
 | 0,_,_=>none
 | k + 1,x0,x3=>if x3 < (x0.length:Int) then (if 0 ≤ x3 then ((numnahref07_Within.f k ((rd_T23 x0 x3).f0) ((rd_T23 x0 x3).f1) 0 1073741824 1073741824).bind fun b5=>(if b5 = true then (numnahlaw07_fit.l0 k x0 (wrap64 (x3 + 1))) else (some false))) else (none)) else (some true)
def numnahlaw07_fit.f (k:Nat) (l0:List (S23)):Option (Bool):=numnahlaw07_fit.l0 k l0 0
theorem numnahlaw07_fit.mono_l:∀ k,(∀ y0 y1,LeO (numnahlaw07_fit.l0 k y0 y1) (numnahlaw07_fit.l0 (k + 1) y0 y1))
 | 0=>fun _ _ r h=>by simp [numnahlaw07_fit.l0] at h
 | k + 1=>by
  have b7:=numnahlaw07_fit.mono_l k
  intro y0 y1
  unfold numnahlaw07_fit.l0
  repeat' first
  | (with_reducible exact b7 _ _)
  | (with_reducible exact numnahref07_Within.mono _ _ _ _ _ _)
  | (with_reducible exact LeO.refl _)
  | (with_reducible exact LeO.none _)
  | (with_reducible refine LeO.ite ?_ ?_)
  | (with_reducible refine LeO.bind ?_ (fun _=>?_))
  | exact b7 _ _
  | exact numnahref07_Within.mono _ _ _ _ _ _
  | exact LeO.none _
  | refine LeO.ite ?_ ?_
  | refine LeO.bind ?_ (fun _=>?_)
theorem numnahlaw07_fit.mono:∀ a0 k,LeO (numnahlaw07_fit.f k a0) (numnahlaw07_fit.f (k + 1) a0):=by
 intro a0 k
 have b7:=numnahlaw07_fit.mono_l k
 unfold numnahlaw07_fit.f
 repeat' first
   | (with_reducible exact b7 _ _)
   | (with_reducible exact numnahref07_Within.mono _ _ _ _ _ _)
   | (with_reducible exact LeO.refl _)
   | (with_reducible exact LeO.none _)
   | (with_reducible refine LeO.ite ?_ ?_)
   | (with_reducible refine LeO.bind ?_ (fun _=>?_))
   | exact b7 _ _
   | exact numnahref07_Within.mono _ _ _ _ _ _
   | exact LeO.none _
   | refine LeO.ite ?_ ?_
   | refine LeO.bind ?_ (fun _=>?_)
theorem numnahlaw07_fit.calls (k:Nat) (A0:Option Addr) (c0:Nat) (l0:List (S23)) (r:Bool) (w:World) (d0:Kd.C k23 w A0 l0.length l0) (d1:l0.length ≤ c0) (h:numnahlaw07_fit.f k l0 = some r) :
  Calls Try.prog 27 #[.slice A0 l0.length c0] w fun e w'=>e = .returned (.bool r) ∧ Below w.heap.size w w':=by
 have d5:=Try.underlying23
 have d2:=Aside0.mk d0
 have d7:=Aside0.mk d1
 clear d0 d1
 have HB:=Aside0.mk (Below.refl w.heap.size w)
 have H:(numnahlaw07_fit.l0 k l0 0) = some r:=h
 clear h
 have H':=Aside0.mk H
 clear H
 go_enter Try.func27,Try.ntmps27
 go_wp2
 go_loopg [3] k (fun kq v3 w'=>∃ (b0:Int),v3 = .int .i64 b0 ∧ Aside0 (numnahlaw07_fit.l0 kq l0 b0 = some r) ∧ Aside0 (kq ≤ k) ∧ Aside0 (Below w.heap.size w w'))
 case atStart=>exact ⟨(0),(by first | rfl | (simp;done) | (simp [*];done)),H',⟨Nat.le_refl _⟩,⟨by repeat (first | (with_reducible first | exact HB.out | apply below_alloc | apply pw_below_drewN | apply below_drew1) | exact HB.out)⟩⟩
 case round =>
  clear H'
  obtain ⟨b0,rfl,HA,d3,HB⟩:=hrel
  cases gk with
  | zero=>exact absurd HA.out (by simp [numnahlaw07_fit.l0])
  | succ k1 =>
   have H:=HA.out
   clear HA
   simp only [numnahlaw07_fit.l0] at H
   by_cases c2:b0 < (l0.length:Int)
   case neg =>
    rw [if_neg c2] at H
    have c1:decide (b0 < (l0.length:Int)) = false:=decide_eq_false c2
    clear c2
    obtain rfl:=Option.some.inj H
    go_wp2
    go_ret
    exact ⟨by first | rfl | (simp [errW_none,errW_some] <;> rfl) | (simp [*,errW_none,errW_some] <;> rfl),by repeat (first | (with_reducible first | exact HB.out | apply below_alloc | apply pw_below_drewN | apply below_drew1) | exact HB.out)⟩
   rw [if_pos c2] at H
   have c1:decide (b0 < (l0.length:Int)) = true:=decide_eq_true c2
   clear c2
   by_cases c3:0 ≤ b0
   case neg =>
    rw [if_neg c3] at H
    exact absurd H (by simp)
   rw [if_pos c3] at H
   have d6:decide (0 ≤ b0) = true:=decide_eq_true c3
   clear c3
   replace H:=Option.bind_eq_some_iff.mp H
   obtain ⟨b5,d4,H⟩:=H
   replace H:(if b5 = true then (numnahlaw07_fit.l0 k1 l0 (wrap64 (b0 + 1))) else (some false)) = some r:=H
   have A4:=Aside0.mk d4
   clear d4
   by_cases c5:b5 = true
   case neg =>
    replace c5:=Bool.eq_false_iff.mpr c5
    subst c5
    have H1:(some false) = some r:=by rw [if_neg (show ¬ (false = true) by decide)] at H;exact H
    clear H
    have H:=H1
    clear H1
    obtain rfl:=Option.some.inj H
    have b3:0 ≤ (b0:Int):=of_decide_eq_true (by first | (with_reducible assumption) | assumption)
    have b4:b0 < (l0.length:Int):=of_decide_eq_true (by first | (with_reducible assumption) | assumption)
    obtain ⟨b8,b6,b1,b2⟩:=at_T23 d2.out b0 b3 b4
    cases b6
    replace b1:=(HB.out.cell (World.block_lt_of_cell? w _ b1)).trans b1
    replace b2:=(HB.out.cell (World.block_lt_of_cell? w _ b2)).trans b2
    replace b3:=eq_true b3
    replace b4:=eq_true b4
    go_wp2_with (first | ((with_reducible refine gate_callee (f:=69) rfl ?_);refine goesL_ (some 14) rfl rfl Try.func69 (by kernel_rfl) rfl #[.agg #[.int .i64 ((rd_T23 l0 b0).f0),.int .i64 ((rd_T23 l0 b0).f1)],.int .i64 0,.int .i64 1073741824,.int .i64 1073741824] rfl (by (try simp only [List.map_toArray,List.map_cons,List.map_nil]);first | done | rfl | (simp only [List.length_drop,List.length_take];rfl)) ?_;(with_reducible refine (numnahref07_Within.calls k1 ((rd_T23 l0 b0).f0) ((rd_T23 l0 b0).f1) 0 1073741824 1073741824 false _ A4.out).mono ?_);rintro e w7 ⟨rfl,hb⟩;refine ⟨_,rfl,?_⟩;have b9:=Aside0.mk (below_step (by repeat (first | (with_reducible first | exact HB.out | apply below_alloc | apply pw_below_drewN | apply below_drew1) | exact HB.out)) hb);clear HB;have HB:=b9;clear b9;(try clear hb)))
    go_ret
    exact ⟨by first | rfl | (simp [errW_none,errW_some] <;> rfl) | (simp [*,errW_none,errW_some] <;> rfl),by repeat (first | (with_reducible first | exact HB.out | apply below_alloc | apply pw_below_drewN | apply below_drew1) | exact HB.out)⟩
   subst c5
   have H1:(numnahlaw07_fit.l0 k1 l0 (wrap64 (b0 + 1))) = some r:=by rw [if_pos rfl] at H;exact H
   clear H
   have H:=H1
   clear H1
   have H':=Aside0.mk H
   clear H
   have b3:0 ≤ (b0:Int):=of_decide_eq_true (by first | (with_reducible assumption) | assumption)
   have b4:b0 < (l0.length:Int):=of_decide_eq_true (by first | (with_reducible assumption) | assumption)
   obtain ⟨b8,b6,b1,b2⟩:=at_T23 d2.out b0 b3 b4
   cases b6
   replace b1:=(HB.out.cell (World.block_lt_of_cell? w _ b1)).trans b1
   replace b2:=(HB.out.cell (World.block_lt_of_cell? w _ b2)).trans b2
   replace b3:=eq_true b3
   replace b4:=eq_true b4
   go_wp2_with (first | ((with_reducible refine gate_callee (f:=69) rfl ?_);refine goesL_ (some 14) rfl rfl Try.func69 (by kernel_rfl) rfl #[.agg #[.int .i64 ((rd_T23 l0 b0).f0),.int .i64 ((rd_T23 l0 b0).f1)],.int .i64 0,.int .i64 1073741824,.int .i64 1073741824] rfl (by (try simp only [List.map_toArray,List.map_cons,List.map_nil]);first | done | rfl | (simp only [List.length_drop,List.length_take];rfl)) ?_;(with_reducible refine (numnahref07_Within.calls k1 ((rd_T23 l0 b0).f0) ((rd_T23 l0 b0).f1) 0 1073741824 1073741824 true _ A4.out).mono ?_);rintro e w6 ⟨rfl,hb⟩;refine ⟨_,rfl,?_⟩;have b9:=Aside0.mk (below_step (by repeat (first | (with_reducible first | exact HB.out | apply below_alloc | apply pw_below_drewN | apply below_drew1) | exact HB.out)) hb);clear HB;have HB:=b9;clear b9;(try clear hb)))
   go_roundg k1
   case measure=>have:=d3.out;omega
   case rel=>exact ⟨(wrap64 (b0 + 1)),(by first | rfl | (simp;done) | (simp [*];done)),H',⟨by have:=d3.out;omega⟩,⟨by repeat (first | (with_reducible first | exact HB.out | apply below_alloc | apply pw_below_drewN | apply below_drew1) | exact HB.out)⟩⟩
end Go.Proofs.Ytjohcjfmlhihbaa.G
namespace Go.Proofs.Ytjohcjfmlhihbaa.G
open Go.RowKit Go.Proofs.YtjohcjfmlhihbaaW.PrintWords Go.Proofs.YtjohcjfmlhihbaaW.PrintLast Go.Proofs.YtjohcjfmlhihbaaW.PrintMore
attribute [local go_sem] fld23_0 fld23_1 fld45_0 fld45_1 fld109_0 fld109_1 fld94_0 fld94_1 max2_int min2_int max_two min_two max_three min_three max_four min_four   -- for this text's walks alone
set_option linter.unusedVariables false
set_option linter.unusedSimpArgs false
theorem eqA23 (d:Nat) (w:World) (x0 y0:Int) (x1 y1:Int) :
  (Op.equalIn (d + 2) 23 (.agg #[.int .i64 x0,.int .i64 x1]) (.agg #[.int .i64 y0,.int .i64 y1])).run Try.prog w = .ok (x0 == y0 && (x1 == y1)) w:=by
 refine eqA_of Try.underlying23 (by kernel_rfl) ?_
 refine eqf_cons (by rfl) (by go_simp;rfl) (by go_simp;rfl) (by go_simp) ?_
 exact eqf_last (by rfl) (by go_simp;rfl) (by go_simp;rfl) (by go_simp)
end Go.Proofs.Ytjohcjfmlhihbaa.G
set_option linter.unusedSectionVars false
namespace Go.Proofs.Ytjohcjfmlhihbaa.P
open Go Go.RowKit Go.Proofs.Ytjohcjfmlhihbaa.G
open Go.Proofs.YtjohcjfmlhihbaaW.PrintWords Go.Proofs.YtjohcjfmlhihbaaW.PrintMore
theorem S23_ext {a b:S23} (h0:a.f0 = b.f0) (h1:a.f1 = b.f1):a = b:=by cases a;cases b;simp_all
instance:DecidableEq S23:=fun a b=>decidable_of_iff (a.f0 = b.f0 ∧ a.f1 = b.f1) ⟨fun h=>S23_ext h.1 h.2,fun h=>by rw [h];exact ⟨rfl,rfl⟩⟩
theorem rdT {a:List S23} {i:Nat} (h:i < a.length):rd_T23 a (i:Int) = a[i]:=by unfold rd_T23;simp [h]
theorem mn11 {n:Nat}:mn (n:Int) 11 = ((min n 11:Nat):Int):=by unfold mn;split <;> omega
theorem ev_within {q:Rat} (h1:q.num.natAbs < 9223372036854775808) (lo hi d:Int):Ev (fun k=>numnahref07_Within.f k q.num (q.den:Int) lo hi d) (decide ((q.den:Int) ≤ d ∧ lo ≤ q.num ∧ q.num ≤ hi)):=by
 unfold numnahref07_Within.f
 have hp:=den_pos q
 refine Ev.congr (fun k=>if_pos (by omega)) ?_
 by_cases a1:(q.den:Int) ≤ d
 ·refine Ev.congr (fun k=>if_pos a1) ?_
  by_cases a2:q.num ≥ lo
  ·refine Ev.congr (fun k=>if_pos a2) ?_
   by_cases a3:q.num ≤ hi
   ·refine Ev.congr (fun k=>if_pos a3) ?_
    rw [mx_abs h1,decide_eq_true (⟨a1,a2,a3⟩:_ ∧ _ ∧ _)]
    simp only [ref_gcd]
    refine Ev.bind (ev_gcd q.num.natAbs q.den) ?_
    rw [gcd_one q]
    exact Ev.now _
   ·rw [decide_eq_false (fun h=>a3 h.2.2)]
    exact Ev.congr (fun k=>if_neg a3) (Ev.now _)
  ·rw [decide_eq_false (fun h=>a2 h.2.1)]
   exact Ev.congr (fun k=>if_neg a2) (Ev.now _)
 ·rw [decide_eq_false (fun h=>a1 h.1)]
  exact Ev.congr (fun k=>if_neg a1) (Ev.now _)
theorem fit_l0 {x:List Rat} (hl:x.length ≤ 1000000) (hx:∀ q ∈ x,0 ≤ q ∧ Sm 1073741824 1073741824 q):∀ (d i:Nat),i + d = x.length → Ev (fun k=>numnahlaw07_fit.l0 k (encL x) (i:Int)) true:=by
 intro d
 induction d with
 | zero =>
  intro i hi
  refine Ev.step (f:=fun _=>some true) (fun k=>?_) (Ev.now _)
  rw [numnahlaw07_fit.l0,encL_length,if_neg (by omega)]
 | succ d ih =>
  intro i hi
  have hil:i < x.length:=by omega
  obtain ⟨q0,qs⟩:=hx _ (List.getElem_mem hil)
  have h1:=qs.num
  have h2:=qs.den
  have hw:=ev_within (q:=x[i]) (by omega) 0 1073741824 1073741824
  rw [decide_eq_true (⟨by omega,Rat.num_nonneg.2 q0,by omega⟩:_ ∧ _ ∧ _)] at hw
  obtain ⟨K1,e1⟩:=hw
  obtain ⟨K2,e2⟩:=ih (i + 1) (by omega)
  refine ⟨K1 + K2 + 1,fun k hk=>?_⟩
  obtain ⟨m,rfl⟩:∃ m,k = m + 1:=⟨k - 1,by omega⟩
  have f1:=e1 m (by omega)
  have f2:=e2 m (by omega)
  show numnahlaw07_fit.l0 (m + 1) _ _ = _
  rw [numnahlaw07_fit.l0,encL_length,if_pos (by omega),if_pos (by omega),rdE hil]
  simp only [encQ,f1,Option.bind_some,if_true]
  rw [wrap_succ (by omega)]
  exact f2
theorem ev_fit {x:List Rat} (hl:x.length ≤ 1000000) (hx:∀ q ∈ x,0 ≤ q ∧ Sm 1073741824 1073741824 q):Ev (fun k=>numnahlaw07_fit.f k (encL x)) true:=fit_l0 hl hx x.length 0 (by omega)
theorem mod_some (x:Int) {n:Int} (h0:0 < n) (h1:n ≤ 9223372036854775807):∃ m,0 ≤ m ∧ m < n ∧ numnahlaw07_mod.f x n = some m:=by
 unfold numnahlaw07_mod.f
 have e:IntKind.u64.wrap n = n:=by
  rw [show IntKind.u64.wrap n = n % 18446744073709551616 from by first | rfl | exact IntKind.wrap_u64 n | simp [IntKind.wrap]]
  omega
 obtain ⟨u,hu⟩:∃ u,IntKind.u64.wrap x = u:=⟨_,rfl⟩
 have hu0:0 ≤ u ∧ u ≤ 18446744073709551615:=by
  rw [← hu,show IntKind.u64.wrap x = x % 18446744073709551616 from by first | rfl | exact IntKind.wrap_u64 x | simp [IntKind.wrap]]
  omega
 rw [e,hu,if_neg (by omega),Int.tmod_eq_emod_of_nonneg hu0.1]
 have m0:=Int.emod_nonneg u (show n ≠ 0 by omega)
 have m1:=Int.emod_lt_of_pos u h0
 exact ⟨u % n,m0,m1,by rw [wrap_id (by omega) (by omega)]⟩
theorem IsRule.len {r:Nat} {q:List Rat} {E:Rat} {x:List Rat} (h:IsRule r q E x):x.length = q.length:=by
 obtain ⟨_,_,rfl,_⟩:=h
 exact List.length_map _
end Go.Proofs.Ytjohcjfmlhihbaa.P
set_option linter.unusedSectionVars false
namespace Go.Proofs.Ytjohcjfmlhihbaa.P
open Go Go.RowKit Go.Proofs.Ytjohcjfmlhihbaa.G
open Go.Proofs.YtjohcjfmlhihbaaW.PrintWords Go.Proofs.YtjohcjfmlhihbaaW.PrintMore
theorem within_eq (n lo hi:Int):shares_within.f n lo hi = some (decide (lo ≤ n ∧ n ≤ hi)):=by
 unfold shares_within.f
 by_cases h:n ≥ lo
 ·rw [if_pos h]
  congr 1
  rw [Bool.eq_iff_iff,decide_eq_true_iff,decide_eq_true_iff]
  exact ⟨fun k=>⟨h,k⟩,fun k=>k.2⟩
 ·rw [if_neg h,decide_eq_false (fun k=>h k.1)]
def okW (c:Int) (w:S23):Prop:=1 ≤ w.f1 ∧ w.f1 ≤ 20 ∧ Nat.gcd w.f0.natAbs w.f1.toNat = 1 ∧ 0 ≤ w.f0 ∧ w.f0 ≤ c * w.f1
instance (c:Int) (w:S23):Decidable (okW c w):=by unfold okW;exact inferInstance
structure IsDiv (l:List Int) (E:Int) (x:List Rat):Prop where
 len:x.length = l.length
 ok:∀ i (h1:i < x.length) (h2:i < l.length),0 ≤ x[i] ∧ x[i] ≤ (l[i]:Rat) ∧ x[i].den ≤ 20
 sum:tot x = (E:Rat)
end Go.Proofs.Ytjohcjfmlhihbaa.P
namespace Go.Proofs.Ytjohcjfmlhihbaa.G
open Go Go.RowKit Go.Proofs.YtjohcjfmlhihbaaW.PrintWords
def contains102.f (l0:List Int):Option ((Bool)):=if H.fitL l0 then some (l0.any (fun x=>!decide (0 ≤ x ∧ x ≤ 200))) else none
theorem contains102.calls (A0:Option Addr) (c0:Nat) (l0:List Int) (r:Bool) (w:World) (hr0:Kd.C (Kd.int .i64) w A0 l0.length l0) (_:l0.length ≤ c0) (h:contains102.f l0 = some r) :
  Calls Try.prog 80 #[.slice A0 l0.length c0,.func (.func 102) #[] #[]] w fun e w'=>e = .returned (.bool r) ∧ Below w.heap.size w w':=by
 unfold contains102.f at h
 by_cases hf:H.fitL l0
 case neg =>
  rw [if_neg hf] at h
  cases h
 rw [if_pos hf] at h
 obtain rfl:=Option.some.inj h
 exact H.contains102 A0 c0 l0 w hr0 hf
end Go.Proofs.Ytjohcjfmlhihbaa.G
namespace Go.Proofs.Ytjohcjfmlhihbaa.G
open Go.RowKit Go.Proofs.YtjohcjfmlhihbaaW.PrintWords Go.Proofs.YtjohcjfmlhihbaaW.PrintLast Go.Proofs.YtjohcjfmlhihbaaW.PrintMore
set_option maxHeartbeats 8000000
set_option maxRecDepth 100000
attribute [local go_sem] cond_true cond_false fld23_0 fld23_1 fld45_0 fld45_1 fld109_0 fld109_1 fld94_0 fld94_1 max2_int min2_int max_two min_two max_three min_three max_four min_four
mutual
def shares_newNet.j0:Nat → List Int → List (S45) → Bool → Option (Bool)
 | 0,_,_,_=>none
 | k + 1,x0,x1,x23=>if x23 = true then (some false) else (shares_newNet.l0 k x0 x1 (x1.length:Int) 0)
def shares_newNet.l0:Nat → List Int → List (S45) → Int → Int → Option (Bool)
 | 0,_,_,_,_=>none
 | k + 1,x0,e2,h7,d9=>if d9 < h7 then (if 0 ≤ d9 then (if d9 < (e2.length:Int) then ((shares_within.f ((rd_T45 e2 d9).f0) 1 4).bind fun h8=>(if h8 = true then ((shares_within.f (((rd_T45 e2 d9).f1).length:Int) 1 (x0.length:Int)).bind fun e3=>(shares_newNet.j2 k x0 e2 h7 d9 (!e3) ((rd_T45 e2 d9).f0) ((rd_T45 e2 d9).f1))) else (shares_newNet.j2 k x0 e2 h7 d9 true ((rd_T45 e2 d9).f0) ((rd_T45 e2 d9).f1)))) else (none)) else (none)) else (some true)
def shares_newNet.j2:Nat → List Int → List (S45) → Int → Int → Bool → Int → List Int → Option (Bool)
 | 0,_,_,_,_,_,_,_=>none
 | k + 1,x0,e2,h7,d9,x43,x231000,b9=>if x43 = true then (some false) else (shares_newNet.l1 k x0 e2 h7 d9 b9 (b9.length:Int) 0 x231000 b9)
def shares_newNet.l1:Nat → List Int → List (S45) → Int → Int → List Int → Int → Int → Int → List Int → Option (Bool)
 | 0,_,_,_,_,_,_,_,_,_=>none
 | k + 1,x0,e2,h7,d9,l7,r8,h5,x231000,b9=>if h5 < r8 then (if 0 ≤ h5 then (if h5 < (l7.length:Int) then ((shares_within.f (rd l7 h5) 0 (wrap64 ((x0.length:Int) - 1))).bind fun h9=>(if h9 = true then (if h5 > 0 then (if 0 ≤ (wrap64 (h5 - 1)) then (if (wrap64 (h5 - 1)) < (b9.length:Int) then (if (rd b9 (wrap64 (h5 - 1))) ≥ (rd l7 h5) then (some false) else (shares_newNet.l1 k x0 e2 h7 d9 l7 r8 (wrap64 (h5 + 1)) x231000 b9)) else (none)) else (none)) else (shares_newNet.l1 k x0 e2 h7 d9 l7 r8 (wrap64 (h5 + 1)) x231000 b9)) else (some false))) else (none)) else (none)) else (shares_newNet.l0 k x0 e2 h7 (wrap64 (d9 + 1)))
end
def shares_newNet.f (k:Nat) (l0:List Int) (l1:List (S45)):Option (Bool):=(shares_within.f (l0.length:Int) 1 5).bind fun h3=>(if h3 = true then ((shares_within.f (l1.length:Int) 1 6).bind fun e0=>(if e0 = true then ((contains102.f l0).bind fun d6=>(shares_newNet.j0 k l0 l1 d6)) else (shares_newNet.j0 k l0 l1 true))) else (shares_newNet.j0 k l0 l1 true))
theorem shares_newNet.mono_l:∀ k,(∀ y0 y1 y2,LeO (shares_newNet.j0 k y0 y1 y2) (shares_newNet.j0 (k + 1) y0 y1 y2)) ∧ (∀ y0 y1 y2 y3,LeO (shares_newNet.l0 k y0 y1 y2 y3) (shares_newNet.l0 (k + 1) y0 y1 y2 y3)) ∧ (∀ y0 y1 y2 y3 y4 y5 y6,LeO (shares_newNet.j2 k y0 y1 y2 y3 y4 y5 y6) (shares_newNet.j2 (k + 1) y0 y1 y2 y3 y4 y5 y6)) ∧ (∀ y0 y1 y2 y3 y4 y5 y6 y7 y8,LeO (shares_newNet.l1 k y0 y1 y2 y3 y4 y5 y6 y7 y8) (shares_newNet.l1 (k + 1) y0 y1 y2 y3 y4 y5 y6 y7 y8))
 | 0=>⟨fun _ _ _ r h=>by simp [shares_newNet.j0] at h,fun _ _ _ _ r h=>by simp [shares_newNet.l0] at h,fun _ _ _ _ _ _ _ r h=>by simp [shares_newNet.j2] at h,fun _ _ _ _ _ _ _ _ _ r h=>by simp [shares_newNet.l1] at h⟩
 | k + 1=>by
  obtain ⟨i6,i7,i8,i9⟩:=shares_newNet.mono_l k
  refine ⟨?_,?_,?_,?_⟩
  ·intro y0 y1 y2
   unfold shares_newNet.j0
   repeat' first
   | (with_reducible first | exact i6 _ _ _ | exact i7 _ _ _ _ | exact i8 _ _ _ _ _ _ _ | exact i9 _ _ _ _ _ _ _ _ _ | exact LeO.refl _ | exact LeO.none _ | refine LeO.ite ?_ ?_ | refine LeO.bind ?_ (fun _=>?_))
   | exact LeO.none _ | refine LeO.ite ?_ ?_ | refine LeO.bind ?_ (fun _=>?_)
  ·intro y0 y1 y2 y3
   unfold shares_newNet.l0
   repeat' first
   | (with_reducible first | exact i6 _ _ _ | exact i7 _ _ _ _ | exact i8 _ _ _ _ _ _ _ | exact i9 _ _ _ _ _ _ _ _ _ | exact LeO.refl _ | exact LeO.none _ | refine LeO.ite ?_ ?_ | refine LeO.bind ?_ (fun _=>?_))
   | exact LeO.none _ | refine LeO.ite ?_ ?_ | refine LeO.bind ?_ (fun _=>?_)
  ·intro y0 y1 y2 y3 y4 y5 y6
   unfold shares_newNet.j2
   repeat' first
   | (with_reducible first | exact i6 _ _ _ | exact i7 _ _ _ _ | exact i8 _ _ _ _ _ _ _ | exact i9 _ _ _ _ _ _ _ _ _ | exact LeO.refl _ | exact LeO.none _ | refine LeO.ite ?_ ?_ | refine LeO.bind ?_ (fun _=>?_))
   | exact LeO.none _ | refine LeO.ite ?_ ?_ | refine LeO.bind ?_ (fun _=>?_)
  intro y0 y1 y2 y3 y4 y5 y6 y7 y8
  unfold shares_newNet.l1
  repeat' first
  | (with_reducible first | exact i6 _ _ _ | exact i7 _ _ _ _ | exact i8 _ _ _ _ _ _ _ | exact i9 _ _ _ _ _ _ _ _ _ | exact LeO.refl _ | exact LeO.none _ | refine LeO.ite ?_ ?_ | refine LeO.bind ?_ (fun _=>?_))
  | exact LeO.none _ | refine LeO.ite ?_ ?_ | refine LeO.bind ?_ (fun _=>?_)
theorem shares_newNet.mono:∀ a0 a1 k,LeO (shares_newNet.f k a0 a1) (shares_newNet.f (k + 1) a0 a1):=by
 intro a0 a1 k
 obtain ⟨i6,i7,i8,i9⟩:=shares_newNet.mono_l k
 unfold shares_newNet.f
 repeat' first
   | (with_reducible first | exact i6 _ _ _ | exact i7 _ _ _ _ | exact i8 _ _ _ _ _ _ _ | exact i9 _ _ _ _ _ _ _ _ _ | exact LeO.refl _ | exact LeO.none _ | refine LeO.ite ?_ ?_ | refine LeO.bind ?_ (fun _=>?_))
   | exact LeO.none _ | refine LeO.ite ?_ ?_ | refine LeO.bind ?_ (fun _=>?_)
theorem shares_newNet.calls (k:Nat) (A0:Option Addr) (c0:Nat) (l0:List Int) (A1:Option Addr) (c1:Nat) (l1:List (S45)) (r:Bool) (w:World) (s1:Kd.C (Kd.int .i64) w A0 l0.length l0) (s2:l0.length ≤ c0) (s3:Kd.C k45 w A1 l1.length l1) (s4:l1.length ≤ c1) (h:shares_newNet.f k l0 l1 = some r) :
  Calls Try.prog 70 #[.slice A0 l0.length c0,.slice A1 l1.length c1] w fun e w'=>e = .returned (.tuple #[cond r (.agg #[.slice A0 l0.length c0,.slice A1 l1.length c1]) (.agg #[.slice none 0 0,.slice none 0 0]),.bool r]) ∧ Below w.heap.size w w':=by
 have s5:=Try.underlying109
 have A6:=Try.underlying45
 have A8:=A_ s1
 have B0:=A_ s2
 clear s1 s2
 have C0:=A_ s3
 have C6:=A_ s4
 clear s3 s4
 have HB:=A_ (Below.refl w.heap.size w)
 have H:((shares_within.f (l0.length:Int) 1 5).bind fun h3=>(if h3 = true then ((shares_within.f (l1.length:Int) 1 6).bind fun e0=>(if e0 = true then ((contains102.f l0).bind fun d6=>(shares_newNet.j0 k l0 l1 d6)) else (shares_newNet.j0 k l0 l1 true))) else (shares_newNet.j0 k l0 l1 true))) = some r:=h
 clear h
 have r9:=A_ H
 clear H
 go_enter Try.func70,Try.ntmps70
 go_upto_region 1 with (first | ((with_reducible refine gate_dst (N:=4) rfl ?_);(try (refine gate_guard (by rfl) ?_;dsimp only));refine bx 4 #[.slice none 0 0,.slice none 0 0] 109 ?_;intro b5 hg w4 hbox hb;have b1:=A_ hbox;have l8:=gw hg HB;have s6:=l8;replace HB:=bB HB hb;clear hb hbox hg))
 (try simp only [Act.put,List.setIfInBounds_toArray,List.set_cons_zero,List.set_cons_succ])
 go_cut [23] (fun C1 wc=>∃ (kq:Nat) (e8:Bool),C1 = .bool e8 ∧ Aside0 (shares_newNet.j0 kq l0 l1 e8 = some r) ∧ Aside0 (kq ≤ k) ∧ Aside0 (wc.heap[b5]? = some (.cells #[(.slice none 0 0),(.slice none 0 0)] 109 (0,0))) ∧ Aside0 (Below w.heap.size w wc))
 case first =>
  have H:=r9.out
  clear r9
  replace H:=Option.bind_eq_some_iff.mp H
  obtain ⟨h3,s7,H⟩:=H
  replace H:(if h3 = true then ((shares_within.f (l1.length:Int) 1 6).bind fun e0=>(if e0 = true then ((contains102.f l0).bind fun d6=>(shares_newNet.j0 k l0 l1 d6)) else (shares_newNet.j0 k l0 l1 true))) else (shares_newNet.j0 k l0 l1 true)) = some r:=H
  have A5:=A_ s7
  clear s7
  by_cases c6:h3 = true
  case neg =>
   replace c6:=Bool.eq_false_iff.mpr c6
   subst c6
   rw [if_neg (show ¬ (false = true) by decide)] at H
   have H':=A_ H
   clear H
   go_wp2_with (first | ((with_reducible refine gate_callee (f:=92) rfl ?_);refine gL (some 12) Try.func92 #[.int .i64 (l0.length:Int),.int .i64 1,.int .i64 5] ?_;(with_reducible refine (shares_within.calls (l0.length:Int) 1 5 false _ A5.out).mono ?_);rintro e w' ⟨rfl,⟨nd,rfl⟩⟩;refine ⟨_,rfl,?_⟩))
   go_meet
   case rel=>exact ⟨_,(true),rfl,H',⟨by first | omega | exact Nat.le_refl _⟩,⟨by exact b1.out⟩,⟨bl HB⟩⟩
  subst c6
  rw [if_pos rfl] at H
  replace H:=Option.bind_eq_some_iff.mp H
  obtain ⟨e0,s8,H⟩:=H
  replace H:(if e0 = true then ((contains102.f l0).bind fun d6=>(shares_newNet.j0 k l0 l1 d6)) else (shares_newNet.j0 k l0 l1 true)) = some r:=H
  have A7:=A_ s8
  clear s8
  by_cases c8:e0 = true
  case neg =>
   replace c8:=Bool.eq_false_iff.mpr c8
   subst c8
   rw [if_neg (show ¬ (false = true) by decide)] at H
   have H':=A_ H
   clear H
   go_wp2_with (first | ((with_reducible refine gate_callee (f:=92) rfl ?_);refine gL (some 12) Try.func92 #[.int .i64 (l0.length:Int),.int .i64 1,.int .i64 5] ?_;(with_reducible refine (shares_within.calls (l0.length:Int) 1 5 true _ A5.out).mono ?_);rintro e w' ⟨rfl,⟨nd,rfl⟩⟩;refine ⟨_,rfl,?_⟩) | (go_at_call 92;(with_reducible refine (shares_within.calls (l1.length:Int) 1 6 false _ A7.out).mono ?_);rintro e w' ⟨rfl,⟨nd,rfl⟩⟩))
   go_meet
   case rel=>exact ⟨_,(true),rfl,H',⟨by first | omega | exact Nat.le_refl _⟩,⟨by exact b1.out⟩,⟨bl HB⟩⟩
  subst c8
  rw [if_pos rfl] at H
  replace H:=Option.bind_eq_some_iff.mp H
  obtain ⟨d6,s9,H⟩:=H
  replace H:(shares_newNet.j0 k l0 l1 d6) = some r:=H
  have A9:=A_ s9
  clear s9
  have H':=A_ H
  clear H
  go_wp2_with (first | ((with_reducible refine gate_callee (f:=92) rfl ?_);refine gL (some 12) Try.func92 #[.int .i64 (l0.length:Int),.int .i64 1,.int .i64 5] ?_;(with_reducible refine (shares_within.calls (l0.length:Int) 1 5 true _ A5.out).mono ?_);rintro e w' ⟨rfl,⟨nd,rfl⟩⟩;refine ⟨_,rfl,?_⟩) | (go_at_call 92;(with_reducible refine (shares_within.calls (l1.length:Int) 1 6 true _ A7.out).mono ?_);rintro e w' ⟨rfl,⟨nd,rfl⟩⟩) | (go_at_call 80;(with_reducible refine (contains102.calls _ _ l0 d6 _ ?side1 ?side2 A9.out).mono ?_);(case side1=>exact kc_ (Kd.C_below A8.out (bl HB)));(case side2=>exact B0.out);rintro e C7 ⟨rfl,hb⟩;replace b1:=kB b1 hb;replace HB:=bB HB hb;(try clear hb)))
  go_meet
  case rel=>exact ⟨_,(d6),rfl,H',⟨by first | omega | exact Nat.le_refl _⟩,⟨by exact b1.out⟩,⟨bl HB⟩⟩
 case rest =>
  clear r9
  obtain ⟨kq,e8,rfl,HA,i0,b1,HB⟩:=hcut
  cases kq with
  | zero=>exact absurd HA.out (by simp [shares_newNet.j0])
  | succ t0 =>
   have H:=HA.out
   clear HA
   simp only [shares_newNet.j0] at H
   by_cases m9:e8 = true
   ·subst m9
    rw [if_pos rfl] at H
    obtain rfl:=Option.some.inj H
    have n0:wc.cell? ⟨b5,0,none⟩ = some (.slice none 0 0):=cz b1 0
    have n1:wc.cell? ⟨b5,1,none⟩ = some (.slice none 0 0):=cz b1 1
    have n2:=blk_frozen b1.out 0
    have n3:=blk_frozen b1.out 1
    go_wp2
    refine bodyPost_ret (results_ct rfl _ _ b5 109 #[.slice none 0 0,.slice none 0 0] (0,0) _ rfl (by first | exact blk_put (blk_put b1.out 0 _ rfl) 1 _ rfl | exact blk_put (blk_put (blk_drewN b1.out _) 0 _ rfl) 1 _ rfl) Try.underlying109 rfl (by kernel_rfl)) rfl ?_
    exact ⟨rfl,bl HB⟩
   replace m9:=Bool.eq_false_iff.mpr m9
   subst m9
   rw [if_neg (show ¬ (false = true) by decide)] at H
   have H':=A_ H
   clear H
   go_wp2
   go_loopg [27] t0 (fun kq C2 w'=>∃ (b0:Int),C2 = .int .i64 b0 ∧ Aside0 (shares_newNet.l0 kq l0 l1 (l1.length:Int) b0 = some r) ∧ Aside0 (kq ≤ t0) ∧ Aside0 (w'.heap[b5]? = some (.cells #[(.slice none 0 0),(.slice none 0 0)] 109 (0,0))) ∧ Aside0 (Below w.heap.size w w'))
   case atStart=>exact ⟨(0),rfl,H',⟨Nat.le_refl _⟩,⟨by exact b1.out⟩,⟨bl HB⟩⟩
   case round =>
    clear H'
    obtain ⟨b0,rfl,HA,i1,b1,HB⟩:=hrel
    cases gk with
    | zero=>exact absurd HA.out (by simp [shares_newNet.l0])
    | succ k2 =>
     have H:=HA.out
     clear HA
     simp only [shares_newNet.l0] at H
     by_cases j5:b0 < (l1.length:Int)
     case neg =>
      rw [if_neg j5] at H
      have l9:=decide_eq_false j5
      clear j5
      obtain rfl:=Option.some.inj H
      have n4:wr.cell? ⟨b5,0,none⟩ = some (.slice none 0 0):=cz b1 0
      have n5:wr.cell? ⟨b5,1,none⟩ = some (.slice none 0 0):=cz b1 1
      have n6:=blk_frozen b1.out 0
      have n7:=blk_frozen b1.out 1
      go_wp2
      refine bodyPost_ret (results_ct rfl _ _ b5 109 #[.slice A0 l0.length c0,.slice A1 l1.length c1] (0,0) _ rfl (by first | exact blk_put (blk_put b1.out 0 _ rfl) 1 _ rfl | exact blk_put (blk_put (blk_drewN b1.out _) 0 _ rfl) 1 _ rfl) Try.underlying109 rfl (by kernel_rfl)) rfl ?_
      exact ⟨rfl,bl HB⟩
     rw [if_pos j5] at H
     have l9:=decide_eq_true j5
     clear j5
     replace H:=gd H
     obtain ⟨t1,H⟩:=H
     have t2:=decide_eq_true t1
     clear t1
     replace H:=gd H
     obtain ⟨t3,H⟩:=H
     have t4:=decide_eq_true t3
     clear t3
     have i2:=A_ H
     clear H
     have i3:0 ≤ (b0:Int):=of_decide_eq_true (by assumption)
     have i4:b0 < (l1.length:Int):=of_decide_eq_true (by assumption)
     obtain ⟨t5,e4,d1,s0,e9,h0,h1,h2⟩:=at_T45 C0.out b0 i3 i4
     cases s0
     replace e9:=cT HB e9
     replace h0:=cT HB h0
     have d0:=A_ h2
     have n8:=A_ h1
     clear h2 h1
     replace i3:=eq_true i3
     replace i4:=eq_true i4
     go_upto_region 6 with (first | ((with_reducible refine gate_dst (N:=7) rfl ?_);(try (refine gate_guard (by rfl) ?_;dsimp only));refine bx 7 #[.int .i64 0,.slice none 0 0] 45 ?_;intro b8 hg j7 hbox hb;have b3:=A_ hbox;have m0:=gw hg HB;have t6:=m0;have b4:=nl hg b1;have b6:=ng hg b1;replace b1:=kB b1 hb;replace HB:=bB HB hb;clear hb hbox hg;have t7:=b6.out;have t8:=b4.out;have n9:j7.cell? ⟨b8,0,none⟩ = some (.int .i64 0):=cz b3 0;have o0:j7.cell? ⟨b8,1,none⟩ = some (.slice none 0 0):=cz b3 1;have o1:=blk_frozen b3.out 0;have o2:=blk_frozen b3.out 1))
     (try simp only [Act.put,List.setIfInBounds_toArray,List.set_cons_zero,List.set_cons_succ])
     go_cut [43] (fun C3 wc=>∃ (kq:Nat) (d8:Bool),C3 = .bool d8 ∧ Aside0 (shares_newNet.j2 kq l0 l1 (l1.length:Int) b0 d8 ((rd_T45 l1 b0).f0) ((rd_T45 l1 b0).f1) = some r) ∧ Aside0 (kq ≤ k2) ∧ Aside0 (wc.heap[b5]? = some (.cells #[(.slice none 0 0),(.slice none 0 0)] 109 (0,0))) ∧ Aside0 (wc.heap[b8]? = some (.cells #[.int .i64 ((rd_T45 l1 b0).f0),(.slice e4 ((rd_T45 l1 b0).f1).length d1)] 45 (0,0))) ∧ Aside0 (Below w.heap.size w wc))
     case first =>
      have H:=i2.out
      clear i2
      replace H:=Option.bind_eq_some_iff.mp H
      obtain ⟨h8,m1,H⟩:=H
      replace H:(if h8 = true then ((shares_within.f (((rd_T45 l1 b0).f1).length:Int) 1 (l0.length:Int)).bind fun e3=>(shares_newNet.j2 k2 l0 l1 (l1.length:Int) b0 (!e3) ((rd_T45 l1 b0).f0) ((rd_T45 l1 b0).f1))) else (shares_newNet.j2 k2 l0 l1 (l1.length:Int) b0 true ((rd_T45 l1 b0).f0) ((rd_T45 l1 b0).f1))) = some r:=H
      have t9:=A_ m1
      clear m1
      by_cases o3:h8 = true
      case neg =>
       replace o3:=Bool.eq_false_iff.mpr o3
       subst o3
       rw [if_neg (show ¬ (false = true) by decide)] at H
       have H':=A_ H
       clear H
       have x2:=b6.out
       have x3:=b4.out
       have o4:j7.cell? ⟨b8,0,none⟩ = some (.int .i64 0):=cz b3 0
       have o5:j7.cell? ⟨b8,1,none⟩ = some (.slice none 0 0):=cz b3 1
       have o6:=blk_frozen b3.out 0
       have o7:=blk_frozen b3.out 1
       go_wp2_with (first | ((with_reducible refine gate_callee (f:=92) rfl ?_);refine gL (some 33) Try.func92 #[.int .i64 ((rd_T45 l1 b0).f0),.int .i64 1,.int .i64 4] ?_;(with_reducible refine (shares_within.calls ((rd_T45 l1 b0).f0) 1 4 false _ t9.out).mono ?_);rintro e w' ⟨rfl,⟨nd,rfl⟩⟩;refine ⟨_,rfl,?_⟩))
       go_meet
       case rel=>exact ⟨_,(true),rfl,H',⟨by have:=i0.out;have:=i1.out;first | omega | exact Nat.le_refl _⟩,⟨by refine blk_far ?_ b4.out _;refine blk_far ?_ b4.out _;exact b1.out⟩,⟨by refine blk_put (cs:=#[.int .i64 ((rd_T45 l1 b0).f0),.slice none 0 0]) ?_ 1 _ rfl;refine blk_put (cs:=#[.int .i64 0,.slice none 0 0]) ?_ 0 _ rfl;exact b3.out⟩,⟨bl HB⟩⟩
      subst o3
      rw [if_pos rfl] at H
      replace H:=Option.bind_eq_some_iff.mp H
      obtain ⟨e3,m2,H⟩:=H
      replace H:(shares_newNet.j2 k2 l0 l1 (l1.length:Int) b0 (!e3) ((rd_T45 l1 b0).f0) ((rd_T45 l1 b0).f1)) = some r:=H
      have C4:=A_ m2
      clear m2
      have H':=A_ H
      clear H
      have x4:=b6.out
      have x5:=b4.out
      have o8:j7.cell? ⟨b8,0,none⟩ = some (.int .i64 0):=cz b3 0
      have o9:j7.cell? ⟨b8,1,none⟩ = some (.slice none 0 0):=cz b3 1
      have p0:=blk_frozen b3.out 0
      have p1:=blk_frozen b3.out 1
      go_wp2_with (first | ((with_reducible refine gate_callee (f:=92) rfl ?_);refine gL (some 33) Try.func92 #[.int .i64 ((rd_T45 l1 b0).f0),.int .i64 1,.int .i64 4] ?_;(with_reducible refine (shares_within.calls ((rd_T45 l1 b0).f0) 1 4 true _ t9.out).mono ?_);rintro e w' ⟨rfl,⟨nd,rfl⟩⟩;refine ⟨_,rfl,?_⟩) | (go_at_call 92;(with_reducible refine (shares_within.calls (((rd_T45 l1 b0).f1).length:Int) 1 (l0.length:Int) e3 _ C4.out).mono ?_);rintro e w' ⟨rfl,⟨nd,rfl⟩⟩))
      go_meet
      case rel=>exact ⟨_,(!e3),rfl,H',⟨by have:=i0.out;have:=i1.out;first | omega | exact Nat.le_refl _⟩,⟨by refine blk_far ?_ b4.out _;refine blk_far ?_ b4.out _;exact b1.out⟩,⟨by refine blk_put (cs:=#[.int .i64 ((rd_T45 l1 b0).f0),.slice none 0 0]) ?_ 1 _ rfl;refine blk_put (cs:=#[.int .i64 0,.slice none 0 0]) ?_ 0 _ rfl;exact b3.out⟩,⟨bl HB⟩⟩
     case rest =>
      clear i2
      obtain ⟨kq,d8,rfl,HA,h4,b1,b3,HB⟩:=hcut
      cases kq with
      | zero=>exact absurd HA.out (by simp [shares_newNet.j2])
      | succ m3 =>
       have H:=HA.out
       clear HA
       simp only [shares_newNet.j2] at H
       by_cases p2:d8 = true
       ·subst p2
        rw [if_pos rfl] at H
        obtain rfl:=Option.some.inj H
        have x6:=b4.out
        have x7:=b6.out
        have p3:wc.cell? ⟨b5,0,none⟩ = some (.slice none 0 0):=cz b1 0
        have p4:wc.cell? ⟨b5,1,none⟩ = some (.slice none 0 0):=cz b1 1
        have p5:=blk_frozen b1.out 0
        have p6:=blk_frozen b1.out 1
        go_wp2
        refine bodyPost_ret (results_ct rfl _ _ b5 109 #[.slice none 0 0,.slice none 0 0] (0,0) _ rfl (by first | exact blk_put (blk_put b1.out 0 _ rfl) 1 _ rfl | exact blk_put (blk_put (blk_drewN b1.out _) 0 _ rfl) 1 _ rfl) Try.underlying109 rfl (by kernel_rfl)) rfl ?_
        exact ⟨rfl,bl HB⟩
       replace p2:=Bool.eq_false_iff.mpr p2
       subst p2
       rw [if_neg (show ¬ (false = true) by decide)] at H
       have H':=A_ H
       clear H
       have x8:=b6.out
       have x9:=b4.out
       have p7:wc.cell? ⟨b8,0,none⟩ = some (.int .i64 ((rd_T45 l1 b0).f0)):=cz b3 0
       have p8:wc.cell? ⟨b8,1,none⟩ = some (.slice e4 ((rd_T45 l1 b0).f1).length d1):=cz b3 1
       have p9:=blk_frozen b3.out 0
       have q0:=blk_frozen b3.out 1
       go_wp2
       go_loopg [48] m3 (fun kq C5 w'=>∃ (b2:Int),C5 = .int .i64 b2 ∧ Aside0 (shares_newNet.l1 kq l0 l1 (l1.length:Int) b0 ((rd_T45 l1 b0).f1) (((rd_T45 l1 b0).f1).length:Int) b2 ((rd_T45 l1 b0).f0) ((rd_T45 l1 b0).f1) = some r) ∧ Aside0 (kq ≤ m3) ∧ Aside0 (w'.heap[b5]? = some (.cells #[(.slice none 0 0),(.slice none 0 0)] 109 (0,0))) ∧ Aside0 (w'.heap[b8]? = some (.cells #[.int .i64 ((rd_T45 l1 b0).f0),(.slice e4 ((rd_T45 l1 b0).f1).length d1)] 45 (0,0))) ∧ Aside0 (Below w.heap.size w w'))
       case atStart=>exact ⟨(0),rfl,H',⟨Nat.le_refl _⟩,⟨by exact b1.out⟩,⟨by exact b3.out⟩,⟨bl HB⟩⟩
       case round =>
        clear H'
        obtain ⟨b2,rfl,HA,j8,b1,b3,HB⟩:=hrel
        cases gk with
        | zero=>exact absurd HA.out (by simp [shares_newNet.l1])
        | succ k4 =>
         have H:=HA.out
         clear HA
         simp only [shares_newNet.l1] at H
         by_cases j9:b2 < (((rd_T45 l1 b0).f1).length:Int)
         case neg =>
          rw [if_neg j9] at H
          have m4:=decide_eq_false j9
          clear j9
          have H':=A_ H
          clear H
          go_wp2
          go_roundg k4
          case measure=>have:=i0.out;have:=i1.out;have:=h4.out;have:=j8.out;omega
          case rel=>exact ⟨(wrap64 (b0 + 1)),rfl,H',⟨by have:=i0.out;have:=i1.out;have:=h4.out;have:=j8.out;omega⟩,⟨by exact b1.out⟩,⟨bl HB⟩⟩
         rw [if_pos j9] at H
         have m4:=decide_eq_true j9
         clear j9
         replace H:=gd H
         obtain ⟨y9,H⟩:=H
         have z0:=decide_eq_true y9
         clear y9
         replace H:=gd H
         obtain ⟨z1,H⟩:=H
         have z2:=decide_eq_true z1
         clear z1
         replace H:=Option.bind_eq_some_iff.mp H
         obtain ⟨h9,m5,H⟩:=H
         replace H:(if h9 = true then (if b2 > 0 then (if 0 ≤ (wrap64 (b2 - 1)) then (if (wrap64 (b2 - 1)) < (((rd_T45 l1 b0).f1).length:Int) then (if (rd ((rd_T45 l1 b0).f1) (wrap64 (b2 - 1))) ≥ (rd ((rd_T45 l1 b0).f1) b2) then (some false) else (shares_newNet.l1 k4 l0 l1 (l1.length:Int) b0 ((rd_T45 l1 b0).f1) (((rd_T45 l1 b0).f1).length:Int) (wrap64 (b2 + 1)) ((rd_T45 l1 b0).f0) ((rd_T45 l1 b0).f1))) else (none)) else (none)) else (shares_newNet.l1 k4 l0 l1 (l1.length:Int) b0 ((rd_T45 l1 b0).f1) (((rd_T45 l1 b0).f1).length:Int) (wrap64 (b2 + 1)) ((rd_T45 l1 b0).f0) ((rd_T45 l1 b0).f1))) else (some false)) = some r:=H
         have m6:=A_ m5
         clear m5
         by_cases q1:h9 = true
         case neg =>
          replace q1:=Bool.eq_false_iff.mpr q1
          subst q1
          rw [if_neg (show ¬ (false = true) by decide)] at H
          obtain rfl:=Option.some.inj H
          have d2:0 ≤ (b2:Int):=of_decide_eq_true (by assumption)
          have d3:b2 < (((rd_T45 l1 b0).f1).length:Int):=of_decide_eq_true (by assumption)
          obtain ⟨d4,e5,b7⟩:=Kd.at_int d0.out b2 d2 d3
          cases e5
          replace b7:=cT HB b7
          replace d2:=eq_true d2
          replace d3:=eq_true d3
          go_wp2_with (first | ((with_reducible refine gate_callee (f:=92) rfl ?_);refine gL (some 57) Try.func92 #[.int .i64 (rd ((rd_T45 l1 b0).f1) b2),.int .i64 0,.int .i64 (wrap64 ((l0.length:Int) - 1))] ?_;(with_reducible refine (shares_within.calls (rd ((rd_T45 l1 b0).f1) b2) 0 (wrap64 ((l0.length:Int) - 1)) false _ m6.out).mono ?_);rintro e w' ⟨rfl,⟨nd,rfl⟩⟩;refine ⟨_,rfl,?_⟩;(try (rw [drewN_self wr];generalize hq_:World.drewN wr _ = wr;replace b1:Aside0 (wr.heap[b5]? = some (.cells #[.slice none 0 0,.slice none 0 0] 109 (0,0))):=⟨by rw [← hq_];exact b1.out⟩;replace b3:Aside0 (wr.heap[b8]? = some (.cells #[.int .i64 ((rd_T45 l1 b0).f0),.slice (some d4) ((rd_T45 l1 b0).f1).length d1] 45 (0,0))):=⟨by rw [← hq_];exact b3.out⟩;replace HB:Aside0 (Below w.heap.size w wr):=⟨by rw [← hq_];exact HB.out⟩;clear hq_));have z3:=b4.out;have z4:=b6.out;have q2:wr.cell? ⟨b5,0,none⟩ = some (.slice none 0 0):=cz b1 0;have q3:wr.cell? ⟨b5,1,none⟩ = some (.slice none 0 0):=cz b1 1;have q4:=blk_frozen b1.out 0;have q5:=blk_frozen b1.out 1))
          refine bodyPost_ret (results_ct rfl _ _ b5 109 #[.slice none 0 0,.slice none 0 0] (0,0) _ rfl (by first | exact blk_put (blk_put b1.out 0 _ rfl) 1 _ rfl | exact blk_put (blk_put (blk_drewN b1.out _) 0 _ rfl) 1 _ rfl) Try.underlying109 rfl (by kernel_rfl)) rfl ?_
          exact ⟨rfl,bl HB⟩
         subst q1
         rw [if_pos rfl] at H
         by_cases l5:b2 > 0
         case neg =>
          rw [if_neg l5] at H
          have m7:=decide_eq_false l5
          clear l5
          have H':=A_ H
          clear H
          have d2:0 ≤ (b2:Int):=of_decide_eq_true (by assumption)
          have d3:b2 < (((rd_T45 l1 b0).f1).length:Int):=of_decide_eq_true (by assumption)
          obtain ⟨d4,e5,b7⟩:=Kd.at_int d0.out b2 d2 d3
          cases e5
          replace b7:=cT HB b7
          replace d2:=eq_true d2
          replace d3:=eq_true d3
          go_wp2_with (first | ((with_reducible refine gate_callee (f:=92) rfl ?_);refine gL (some 57) Try.func92 #[.int .i64 (rd ((rd_T45 l1 b0).f1) b2),.int .i64 0,.int .i64 (wrap64 ((l0.length:Int) - 1))] ?_;(with_reducible refine (shares_within.calls (rd ((rd_T45 l1 b0).f1) b2) 0 (wrap64 ((l0.length:Int) - 1)) true _ m6.out).mono ?_);rintro e w' ⟨rfl,⟨nd,rfl⟩⟩;refine ⟨_,rfl,?_⟩))
          go_roundg k4
          case measure=>have:=i0.out;have:=i1.out;have:=h4.out;have:=j8.out;omega
          case rel=>exact ⟨(wrap64 (b2 + 1)),rfl,H',⟨by have:=i0.out;have:=i1.out;have:=h4.out;have:=j8.out;omega⟩,⟨by exact b1.out⟩,⟨by exact b3.out⟩,⟨bl HB⟩⟩
         rw [if_pos l5] at H
         have m7:=decide_eq_true l5
         clear l5
         obtain ⟨d7,e1⟩:∃ j_:Int,(wrap64 (b2 - 1)) = j_:=⟨_,rfl⟩
         replace H:(if 0 ≤ (d7) then (if (d7) < (((rd_T45 l1 b0).f1).length:Int) then (if (rd ((rd_T45 l1 b0).f1) (d7)) ≥ (rd ((rd_T45 l1 b0).f1) b2) then (some false) else (shares_newNet.l1 k4 l0 l1 (l1.length:Int) b0 ((rd_T45 l1 b0).f1) (((rd_T45 l1 b0).f1).length:Int) (wrap64 (b2 + 1)) ((rd_T45 l1 b0).f0) ((rd_T45 l1 b0).f1))) else (none)) else (none)) = some r:=by first | (rw [e1] at H;exact H) | (simp only [e1] at H ⊢;exact H)
         (try rw [e1] at m6)
         have hji38w:(IntKind.i64.wrap (b2 - 1)) = d7:=(i64_w _).trans e1
         replace H:=gd H
         obtain ⟨z5,H⟩:=H
         have z6:=decide_eq_true z5
         clear z5
         replace H:=gd H
         obtain ⟨z7,H⟩:=H
         have z8:=decide_eq_true z7
         clear z7
         by_cases l6:(rd ((rd_T45 l1 b0).f1) (d7)) ≥ (rd ((rd_T45 l1 b0).f1) b2)
         case neg =>
          rw [if_neg l6] at H
          have m8:=decide_eq_false l6
          clear l6
          have H':=A_ H
          clear H
          have d2:0 ≤ (b2:Int):=of_decide_eq_true (by assumption)
          have d3:b2 < (((rd_T45 l1 b0).f1).length:Int):=of_decide_eq_true (by assumption)
          obtain ⟨d4,e5,b7⟩:=Kd.at_int d0.out b2 d2 d3
          cases e5
          replace b7:=cT HB b7
          replace d2:=eq_true d2
          replace d3:=eq_true d3
          go_wp2_with (first | ((with_reducible refine gate_callee (f:=92) rfl ?_);refine gL (some 57) Try.func92 #[.int .i64 (rd ((rd_T45 l1 b0).f1) b2),.int .i64 0,.int .i64 (wrap64 ((l0.length:Int) - 1))] ?_;(with_reducible refine (shares_within.calls (rd ((rd_T45 l1 b0).f1) b2) 0 (wrap64 ((l0.length:Int) - 1)) true _ m6.out).mono ?_);rintro e w' ⟨rfl,⟨nd,rfl⟩⟩;refine ⟨_,rfl,?_⟩;have z9:=b6.out;have A2:=b4.out;have q6:wr.cell? ⟨b8,0,none⟩ = some (.int .i64 ((rd_T45 l1 b0).f0)):=cz b3 0;have q7:wr.cell? ⟨b8,1,none⟩ = some (.slice (some d4) ((rd_T45 l1 b0).f1).length d1):=cz b3 1;have q8:=blk_frozen b3.out 0;have q9:=blk_frozen b3.out 1;have e6:0 ≤ ((d7):Int):=of_decide_eq_true (by assumption);have e7:(d7) < (((rd_T45 l1 b0).f1).length:Int):=of_decide_eq_true (by assumption);obtain ⟨h6,i5,d5⟩:=Kd.at_int d0.out (d7) e6 e7;obtain rfl:d4 = h6:=(by injection i5);replace d5:=cT HB d5;replace e6:=eq_true e6;replace e7:=eq_true e7))
          go_roundg k4
          case measure=>have:=i0.out;have:=i1.out;have:=h4.out;have:=j8.out;omega
          case rel=>exact ⟨(wrap64 (b2 + 1)),rfl,H',⟨by have:=i0.out;have:=i1.out;have:=h4.out;have:=j8.out;omega⟩,⟨by exact b1.out⟩,⟨by exact b3.out⟩,⟨bl HB⟩⟩
         rw [if_pos l6] at H
         have m8:=decide_eq_true l6
         clear l6
         obtain rfl:=Option.some.inj H
         have d2:0 ≤ (b2:Int):=of_decide_eq_true (by assumption)
         have d3:b2 < (((rd_T45 l1 b0).f1).length:Int):=of_decide_eq_true (by assumption)
         obtain ⟨d4,e5,b7⟩:=Kd.at_int d0.out b2 d2 d3
         cases e5
         replace b7:=cT HB b7
         replace d2:=eq_true d2
         replace d3:=eq_true d3
         go_wp2_with (first | ((with_reducible refine gate_callee (f:=92) rfl ?_);refine gL (some 57) Try.func92 #[.int .i64 (rd ((rd_T45 l1 b0).f1) b2),.int .i64 0,.int .i64 (wrap64 ((l0.length:Int) - 1))] ?_;(with_reducible refine (shares_within.calls (rd ((rd_T45 l1 b0).f1) b2) 0 (wrap64 ((l0.length:Int) - 1)) true _ m6.out).mono ?_);rintro e w' ⟨rfl,⟨nd,rfl⟩⟩;refine ⟨_,rfl,?_⟩;(try (rw [drewN_self wr];generalize hq_:World.drewN wr _ = wr;replace b1:Aside0 (wr.heap[b5]? = some (.cells #[.slice none 0 0,.slice none 0 0] 109 (0,0))):=⟨by rw [← hq_];exact b1.out⟩;replace b3:Aside0 (wr.heap[b8]? = some (.cells #[.int .i64 ((rd_T45 l1 b0).f0),.slice (some d4) ((rd_T45 l1 b0).f1).length d1] 45 (0,0))):=⟨by rw [← hq_];exact b3.out⟩;replace HB:Aside0 (Below w.heap.size w wr):=⟨by rw [← hq_];exact HB.out⟩;clear hq_));have A3:=b6.out;have A4:=b4.out;have r0:wr.cell? ⟨b8,0,none⟩ = some (.int .i64 ((rd_T45 l1 b0).f0)):=cz b3 0;have r1:wr.cell? ⟨b8,1,none⟩ = some (.slice (some d4) ((rd_T45 l1 b0).f1).length d1):=cz b3 1;have r2:=blk_frozen b3.out 0;have r3:=blk_frozen b3.out 1;have e6:0 ≤ ((d7):Int):=of_decide_eq_true (by assumption);have e7:(d7) < (((rd_T45 l1 b0).f1).length:Int):=of_decide_eq_true (by assumption);obtain ⟨h6,i5,d5⟩:=Kd.at_int d0.out (d7) e6 e7;obtain rfl:d4 = h6:=(by injection i5);replace d5:=cT HB d5;replace e6:=eq_true e6;replace e7:=eq_true e7;have r4:wr.cell? ⟨b5,0,none⟩ = some (.slice none 0 0):=cz b1 0;have r5:wr.cell? ⟨b5,1,none⟩ = some (.slice none 0 0):=cz b1 1;have r6:=blk_frozen b1.out 0;have r7:=blk_frozen b1.out 1))
         refine bodyPost_ret (results_ct rfl _ _ b5 109 #[.slice none 0 0,.slice none 0 0] (0,0) _ rfl (by first | exact blk_put (blk_put b1.out 0 _ rfl) 1 _ rfl | exact blk_put (blk_put (blk_drewN b1.out _) 0 _ rfl) 1 _ rfl) Try.underlying109 rfl (by kernel_rfl)) rfl ?_
         exact ⟨by first | rfl | (simp [errW_none,errW_some] <;> rfl) | (simp only [← e1];first | rfl | (simp [errW_none,errW_some] <;> rfl)) | (simp [*,errW_none,errW_some] <;> rfl),bl HB⟩
end Go.Proofs.Ytjohcjfmlhihbaa.G
set_option linter.unusedSectionVars false
namespace Go.Proofs.Ytjohcjfmlhihbaa.P
open Go Go.RowKit Go.Proofs.Ytjohcjfmlhihbaa.G
open Go.Proofs.YtjohcjfmlhihbaaW.PrintWords Go.Proofs.YtjohcjfmlhihbaaW.PrintMore
theorem rdT45 {a:List S45} {i:Nat} (h:i < a.length):rd_T45 a (i:Int) = a[i]:=by unfold rd_T45;simp [h]
theorem wrap_pred {i:Nat} (h0:0 < i) (h:i < 9223372036854775807):wrap64 ((i:Int) - 1) = ((i - 1:Nat):Int):=by unfold wrap64;omega
def allF (P:Nat → Bool):Nat → Nat → Bool
 | 0,_=>true
 | d + 1,i=>P i && allF P d (i + 1)
theorem allF_iff (P:Nat → Bool):∀ d i,allF P d i = true ↔ ∀ j,i ≤ j → j < i + d → P j = true
 | 0,i=>by
  constructor
  ·intro _ j h1 h2;omega
  ·intro _;rfl
 | d + 1,i=>by
  rw [allF,Bool.and_eq_true,allF_iff P d (i + 1)]
  constructor
  ·intro h j h1 h2
   by_cases e:j = i
   ·rw [e];exact h.1
   ·exact h.2 j (by omega) (by omega)
  ·intro h
   exact ⟨h i (by omega) (by omega),fun j h1 h2=>h j (by omega) (by omega)⟩
def okAt (n:Nat) (l:List Int) (i:Nat):Bool:=decide (0 ≤ rd l (i:Int)) && decide (rd l (i:Int) < (n:Int)) && (decide (i = 0) || decide (rd l ((i - 1:Nat):Int) < rd l (i:Int)))
def okU (n:Nat) (a:S45):Bool:=decide (1 ≤ a.f0) && decide (a.f0 ≤ 4) && decide (1 ≤ a.f1.length) && allF (okAt n a.f1) a.f1.length 0
theorem okAt_len {n:Nat} {l:List Int} (h:allF (okAt n l) l.length 0 = true):l.length ≤ n:=by
 rw [allF_iff] at h
 have h1:∀ i:Nat,i < l.length → (i:Int) ≤ rd l (i:Int):=by
  intro i
  induction i with
  | zero =>
   intro hi
   have:=h 0 (by omega) (by omega)
   simp only [okAt,Bool.and_eq_true,decide_eq_true_eq] at this
   exact this.1.1
  | succ i ih =>
   intro hi
   have h2:=ih (by omega)
   have:=h (i + 1) (by omega) (by omega)
   simp only [okAt,Bool.and_eq_true,Bool.or_eq_true,decide_eq_true_eq,Nat.add_sub_cancel] at this
   rcases this.2 with h3 | h3
   ·omega
   ·push_cast at h3 ⊢;omega
 by_cases e:l.length = 0
 ·omega
 ·have h2:=h1 (l.length - 1) (by omega)
  have:=h (l.length - 1) (by omega) (by omega)
  simp only [okAt,Bool.and_eq_true,decide_eq_true_eq] at this
  omega
def okNet (p:List Int) (u:List S45):Bool:=decide (1 ≤ p.length) && decide (p.length ≤ 5) && decide (1 ≤ u.length) && decide (u.length ≤ 6) && p.all (fun x=>decide (0 ≤ x ∧ x ≤ 200)) && allF (fun i=>okU p.length (rd_T45 u (i:Int))) u.length 0
section
variable {p:List Int} {u:List S45} (hp:p.length ≤ 1000000) (hu:u.length ≤ 1000000)
include hp hu
theorem nn_l1 {l:List Int} (hl:l.length ≤ 1000000) {iu w:Int} {v:Bool} (hv:Ev (fun k=>shares_newNet.l0 k p u (u.length:Int) (wrap64 (iu + 1))) v):∀ d i,i + d = l.length → Ev (fun k=>shares_newNet.l1 k p u (u.length:Int) iu l (l.length:Int) (i:Int) w l) (allF (okAt p.length l) d i && v):=by
 intro d
 induction d with
 | zero =>
  intro i hi
  rw [allF,Bool.true_and]
  refine Ev.step (fun k=>?_) hv
  rw [shares_newNet.l1,if_neg (by omega)]
 | succ d ih =>
  intro i hi
  have hw:wrap64 ((p.length:Int) - 1) = (p.length:Int) - 1:=wrap_id (by omega) (by omega)
  have start:∀ k,shares_newNet.l1 (k + 1) p u (u.length:Int) iu l (l.length:Int) (i:Int) w l = if okAt p.length l i = true then shares_newNet.l1 k p u (u.length:Int) iu l (l.length:Int) ((i + 1:Nat):Int) w l else some false:=by
   intro k
   rw [shares_newNet.l1,if_pos (by omega),if_pos (by omega),if_pos (by omega),within_eq,hw,wrap_succ (by omega)]
   simp only [Option.bind_some,decide_eq_true_eq]
   unfold okAt
   by_cases h1:0 ≤ rd l (i:Int) ∧ rd l (i:Int) ≤ (p.length:Int) - 1
   ·rw [if_pos h1,decide_eq_true h1.1,decide_eq_true (by omega:rd l (i:Int) < (p.length:Int))]
    by_cases h2:i = 0
    ·rw [if_neg (by omega),decide_eq_true h2];simp
    ·rw [if_pos (by omega),decide_eq_false h2,wrap_pred (by omega) (by omega),if_pos (by omega),if_pos (by omega)]
     by_cases h3:rd l ((i - 1:Nat):Int) < rd l (i:Int)
     ·rw [if_neg (by omega),decide_eq_true h3];simp
     ·rw [if_pos (by omega),decide_eq_false h3];simp
   ·rw [if_neg h1,if_neg]
    simp only [Bool.and_eq_true,decide_eq_true_eq,not_and]
    intro h4
    omega
  refine Ev.step start ?_
  rw [allF]
  by_cases h:okAt p.length l i = true
  ·rw [h,Bool.true_and]
   exact Ev.congr (fun k=>if_pos rfl) (ih (i + 1) (by omega))
  ·have h':okAt p.length l i = false:=by simpa using h
   rw [h',Bool.false_and,Bool.false_and]
   exact Ev.congr (fun k=>if_neg (by decide)) (Ev.now _)
theorem nn_l0 (hul:∀ a ∈ u,a.f1.length ≤ 1000000):∀ d i,i + d = u.length → Ev (fun k=>shares_newNet.l0 k p u (u.length:Int) (i:Int)) (allF (fun i=>okU p.length (rd_T45 u (i:Int))) d i):=by
 intro d
 induction d with
 | zero =>
  intro i hi
  refine Ev.step (f:=fun _=>some true) (fun k=>?_) (Ev.now _)
  rw [shares_newNet.l0,if_neg (by omega)]
 | succ d ih =>
  intro i hi
  have hil:i < u.length:=by omega
  have hl:(rd_T45 u (i:Int)).f1.length ≤ 1000000:=by rw [rdT45 hil];exact hul _ (List.getElem_mem hil)
  have hn:=ih (i + 1) (by omega)
  rw [← wrap_succ (by omega)] at hn
  have h1:=nn_l1 hp hu hl (w:=(rd_T45 u (i:Int)).f0) hn (rd_T45 u (i:Int)).f1.length 0 (by omega)
  rw [allF]
  obtain ⟨a,ha⟩:∃ a,rd_T45 u (i:Int) = a:=⟨_,rfl⟩
  have start:∀ k,shares_newNet.l0 (k + 1) p u (u.length:Int) (i:Int) = if (1 ≤ a.f0 ∧ a.f0 ≤ 4) ∧ 1 ≤ a.f1.length ∧ a.f1.length ≤ p.length then shares_newNet.j2 k p u (u.length:Int) (i:Int) false a.f0 a.f1 else shares_newNet.j2 k p u (u.length:Int) (i:Int) true a.f0 a.f1:=by
   intro k
   rw [shares_newNet.l0,if_pos (by omega),if_pos (by omega),if_pos (by omega),within_eq,within_eq,ha]
   simp only [Option.bind_some,decide_eq_true_eq]
   by_cases h1:1 ≤ a.f0 ∧ a.f0 ≤ 4
   ·rw [if_pos h1]
    by_cases h2:1 ≤ a.f1.length ∧ a.f1.length ≤ p.length
    ·rw [if_pos ⟨h1,h2⟩,decide_eq_true (by omega)];rfl
    ·rw [if_neg (fun e=>h2 e.2),decide_eq_false (by omega)];rfl
   ·rw [if_neg h1,if_neg (fun e=>h1 e.1)]
  refine Ev.step start ?_
  rw [ha] at h1
  by_cases h:(1 ≤ a.f0 ∧ a.f0 ≤ 4) ∧ 1 ≤ a.f1.length ∧ a.f1.length ≤ p.length
  ·refine Ev.congr (fun k=>if_pos h) (Ev.step (f:=fun k=>shares_newNet.l1 k p u (u.length:Int) (i:Int) a.f1 (a.f1.length:Int) 0 a.f0 a.f1) (fun k=>?_) ?_)
   ·rw [shares_newNet.j2];rfl
   ·have e:okU p.length a = allF (okAt p.length a.f1) a.f1.length 0:=by
     unfold okU
     rw [decide_eq_true h.1.1,decide_eq_true h.1.2,decide_eq_true h.2.1];rfl
    show Ev _ (okU p.length (rd_T45 u (i:Int)) && _)
    rw [ha,e]
    exact h1
  ·have e:okU p.length a = false:=by
    rw [← Bool.not_eq_true]
    intro hk
    unfold okU at hk
    rw [Bool.and_eq_true] at hk
    have h4:=okAt_len hk.2
    simp only [Bool.and_eq_true,decide_eq_true_eq] at hk
    exact h ⟨hk.1.1,hk.1.2,h4⟩
   show Ev _ (okU p.length (rd_T45 u (i:Int)) && _)
   rw [ha,e,Bool.false_and]
   refine Ev.congr (fun k=>if_neg h) (Ev.step (f:=fun _=>some false) (fun k=>?_) (Ev.now _))
   rw [shares_newNet.j2];rfl
theorem ev_newNet (hf:H.fitL p) (hul:∀ a ∈ u,a.f1.length ≤ 1000000):Ev (fun k=>shares_newNet.f k p u) (okNet p u):=by
 unfold shares_newNet.f contains102.f
 simp only [within_eq,Option.bind_some,decide_eq_true_eq]
 by_cases h1:1 ≤ p.length ∧ p.length ≤ 5
 ·refine Ev.congr (fun k=>if_pos (by omega)) ?_
  by_cases h2:1 ≤ u.length ∧ u.length ≤ 6
  ·refine Ev.congr (fun k=>if_pos (by omega)) ?_
   rw [if_pos hf]
   simp only [Option.bind_some]
   have e:okNet p u = (p.all (fun x=>decide (0 ≤ x ∧ x ≤ 200)) && allF (fun i=>okU p.length (rd_T45 u (i:Int))) u.length 0):=by
    unfold okNet
    rw [decide_eq_true h1.1,decide_eq_true h1.2,decide_eq_true h2.1,decide_eq_true h2.2];rfl
   rw [e]
   by_cases h3:p.all (fun x=>decide (0 ≤ x ∧ x ≤ 200)) = true
   ·have h4:p.any (fun x=>!decide (0 ≤ x ∧ x ≤ 200)) = false:=by
     rw [← Bool.not_eq_true,List.any_eq_true]
     rintro ⟨x,hx,hb⟩
     rw [List.all_eq_true] at h3
     have:=h3 x hx
     rw [this] at hb
     cases hb
    rw [h3,h4,Bool.true_and]
    refine Ev.step (f:=fun k=>shares_newNet.l0 k p u (u.length:Int) 0) (fun k=>?_) (nn_l0 hp hu hul u.length 0 (by omega))
    rw [shares_newNet.j0];rfl
   ·have h3':p.all (fun x=>decide (0 ≤ x ∧ x ≤ 200)) = false:=by simpa only [Bool.not_eq_true] using h3
    have h4:p.any (fun x=>!decide (0 ≤ x ∧ x ≤ 200)) = true:=by
     rw [List.any_eq_true]
     apply Classical.byContradiction
     intro hno
     apply h3
     rw [List.all_eq_true]
     intro x hx
     apply Classical.byContradiction
     intro hb
     exact hno ⟨x,hx,by rw [Bool.not_eq_true] at hb;rw [hb];rfl⟩
    rw [h3',h4,Bool.false_and]
    refine Ev.step (f:=fun _=>some false) (fun k=>?_) (Ev.now _)
    rw [shares_newNet.j0];rfl
  ·have e:okNet p u = false:=by
    rw [← Bool.not_eq_true]
    intro hk
    simp only [okNet,Bool.and_eq_true,decide_eq_true_eq] at hk
    exact h2 ⟨hk.1.1.1.2,hk.1.1.2⟩
   rw [e]
   refine Ev.congr (fun k=>if_neg (by omega)) (Ev.step (f:=fun _=>some false) (fun k=>?_) (Ev.now _))
   rw [shares_newNet.j0];rfl
 ·have e:okNet p u = false:=by
   rw [← Bool.not_eq_true]
   intro hk
   simp only [okNet,Bool.and_eq_true,decide_eq_true_eq] at hk
   exact h1 ⟨hk.1.1.1.1.1,hk.1.1.1.1.2⟩
  rw [e]
  refine Ev.congr (fun k=>if_neg (by omega)) (Ev.step (f:=fun _=>some false) (fun k=>?_) (Ev.now _))
  rw [shares_newNet.j0];rfl
end
theorem indexH_l0 {l:List Int} (hl:l.length ≤ 1000000) (q:Int):∀ d i,i + d = l.length → ∃ r:Int,(decide (r ≥ 0) = decide (q ∈ l.drop i)) ∧ Ev (fun k=>slices_Index_int_int.l0 k l q (l.length:Int) (i:Int)) r:=by
 intro d
 induction d with
 | zero =>
  intro i hi
  refine ⟨-1,?_,Ev.step (f:=fun _=>some (-1)) (fun k=>?_) (Ev.now _)⟩
  ·rw [List.drop_eq_nil_of_le (by omega)];rfl
  ·rw [slices_Index_int_int.l0,if_neg (by omega)]
 | succ d ih =>
  intro i hi
  have hil:i < l.length:=by omega
  by_cases e:q = l[i]
  ·refine ⟨(i:Int),?_,Ev.step (f:=fun _=>some (i:Int)) (fun k=>?_) (Ev.now _)⟩
   ·rw [decide_eq_true (by omega),decide_eq_true]
    rw [List.drop_eq_getElem_cons hil,e];exact List.mem_cons_self
   ·rw [slices_Index_int_int.l0,if_pos (by omega),if_pos (by omega),if_pos (by omega),rd_get hil,if_pos e]
  ·obtain ⟨r,h1,h2⟩:=ih (i + 1) (by omega)
   refine ⟨r,?_,Ev.step (fun k=>?_) h2⟩
   ·rw [h1,List.drop_eq_getElem_cons hil,Bool.eq_iff_iff,decide_eq_true_iff,decide_eq_true_iff,List.mem_cons]
    exact ⟨fun h=>.inr h,fun h=>h.resolve_left e⟩
   ·rw [slices_Index_int_int.l0,if_pos (by omega),if_pos (by omega),if_pos (by omega),rd_get hil,if_neg e,wrap_succ (by omega)]
theorem ev_has {p:List Int} {u:List S45} {i:Nat} (hi:i < u.length) (hl:u[i].f1.length ≤ 1000000) (q:Int):Ev (fun k=>shares_net_has.f k p u (i:Int) q) (decide (q ∈ u[i].f1)):=by
 unfold shares_net_has.f
 refine Ev.congr (fun k=>if_pos (by omega)) (Ev.congr (fun k=>if_pos (by omega)) ?_)
 rw [rdT45 hi]
 obtain ⟨r,h1,h2⟩:=indexH_l0 hl q u[i].f1.length 0 (by omega)
 unfold slices_Contains_int_int.f slices_Index_int_int.f
 rw [List.drop_zero] at h1
 rw [← h1]
 exact Ev.bind (Ev.bind h2 (Ev.now _)) (Ev.now _)
end Go.Proofs.Ytjohcjfmlhihbaa.P
namespace Go.Proofs.Ytjohcjfmlhihbaa.G
open Go.RowKit Go.Proofs.YtjohcjfmlhihbaaW.PrintWords Go.Proofs.YtjohcjfmlhihbaaW.PrintLast Go.Proofs.YtjohcjfmlhihbaaW.PrintMore
set_option maxHeartbeats 8000000
set_option maxRecDepth 100000
attribute [local go_sem] cond_true cond_false fld23_0 fld23_1 fld45_0 fld45_1 fld109_0 fld109_1 fld94_0 fld94_1 max2_int min2_int max_two min_two max_three min_three max_four min_four
def shares_net_level.f (k:Nat) (d4:List Int) (b8:List (S45)) (l1:List (S23)) (a2:Int):Option (Int × Int):=if 0 ≤ a2 then (if a2 < (l1.length:Int) then (if a2 < (b8.length:Int) then ((shares_over.f k ((rd_T23 l1 a2).f0) ((rd_T23 l1 a2).f1) ((rd_T45 b8 a2).f0)).bind fun d5=>(some (d5.1,d5.2))) else (none)) else (none)) else (none)
theorem shares_net_level.mono:∀ a0 a1 a2 a3 k,LeO (shares_net_level.f k a0 a1 a2 a3) (shares_net_level.f (k + 1) a0 a1 a2 a3):=by
 intro a0 a1 a2 a3 k
 unfold shares_net_level.f
 repeat' first
   | (with_reducible first | exact shares_over.mono _ _ _ _ | exact LeO.refl _ | exact LeO.none _ | refine LeO.ite ?_ ?_ | refine LeO.bind ?_ (fun _=>?_))
   | exact LeO.none _ | refine LeO.ite ?_ ?_ | refine LeO.bind ?_ (fun _=>?_)
def shares_net_level.T1:Bool × List (List Nat × List Nat):=(true,[([],[]),([],[]),([0,1],[0,1]),([2],[2]),([],[]),([4],[4]),([],[]),([5,6],[5,6]),([7],[7]),([8],[8]),([3,9],[3,9]),([10,10,0,1,2,3,4,5,6,7,8,9,10],[10])])
def shares_net_level.B1:List Nat:=[0,0,3,7,0,16,0,112,240,496,1023,2047]
theorem shares_net_level.tab1:rtab .any (opsOf Try.f108 1) = shares_net_level.T1:=by kernel_rfl
theorem shares_net_level.bits1:waitsOk shares_net_level.T1.2 shares_net_level.B1 = true:=by kernel_rfl
theorem shares_net_level.calls (k:Nat) (e0:Option Addr) (e1:Nat) (d4:List Int) (e9:Option Addr) (e2:Nat) (b8:List (S45)) (A1:Option Addr) (c1:Nat) (l1:List (S23)) (a2:Int) (r1:Int) (r2:Int) (w:World) (e4:Kd.C (Kd.int .i64) w e0 d4.length d4) (e5:d4.length ≤ e1) (e6:Kd.C k45 w e9 b8.length b8) (e7:b8.length ≤ e2) (i7:Kd.C k23 w A1 l1.length l1) (i8:l1.length ≤ c1) (h:shares_net_level.f k d4 b8 l1 a2 = some (r1,r2)) :
  Calls Try.prog 108 #[.agg #[.slice e0 d4.length e1,.slice e9 b8.length e2],.slice A1 l1.length c1,.int .i64 a2] w fun e w'=>e = .returned (.agg #[.int .i64 r1,.int .i64 r2]) ∧ Below w.heap.size w w':=by
 have i9:=Try.underlying109
 have l9:=Try.underlying23
 have j5:=A_ e4
 have j7:=A_ e5
 clear e4 e5
 have h7:=A_ e6
 have j8:=A_ e7
 clear e6 e7
 have m0:=A_ i7
 have m6:=A_ i8
 clear i7 i8
 have HB:=A_ (Below.refl w.heap.size w)
 have H:(if 0 ≤ a2 then (if a2 < (l1.length:Int) then (if a2 < (b8.length:Int) then ((shares_over.f k ((rd_T23 l1 a2).f0) ((rd_T23 l1 a2).f1) ((rd_T45 b8 a2).f0)).bind fun d5=>(some (d5.1,d5.2))) else (none)) else (none)) else (none)) = some (r1,r2):=h
 clear h
 replace H:=gd H
 obtain ⟨c4,H⟩:=H
 have m1:=decide_eq_true c4
 clear c4
 replace H:=gd H
 obtain ⟨c5,H⟩:=H
 have m2:=decide_eq_true c5
 clear c5
 replace H:=gd H
 obtain ⟨c6,H⟩:=H
 have m3:=decide_eq_true c6
 clear c6
 replace H:=Option.bind_eq_some_iff.mp H
 obtain ⟨⟨h0,h8⟩,A70,H⟩:=H
 dsimp only at H
 have A7:=A_ A70
 clear A70
 simp only [Option.some.injEq,Prod.mk.injEq] at H
 obtain ⟨rfl,rfl⟩:=H
 go_enter Try.func108,Try.ntmps108
 try go_wp2_with (first | ((with_reducible refine gate_dst (N:=3) rfl ?_);refine bx 3 #[.slice e0 d4.length e1,.slice e9 b8.length e2] 109 ?_;intro e8 hg w8 hbox hb;have b7:=A_ hbox;have h9:=gw hg HB;have j9:=h9;replace HB:=bB HB hb;clear hb hbox hg) | ((with_reducible refine gate_dst (N:=6) rfl ?_);refine bx 6 #[.int .i64 0,.int .i64 0] 23 ?_;intro b6 hg w9 hbox hb;have b9:=A_ hbox;have b0:=gw hg HB;have l5:=b0;have b5:=nl hg b7;have d3:=ng hg b7;replace b7:=kB b7 hb;replace HB:=bB HB hb;clear hb hbox hg))
 replace b7:=kD b7
 replace b9:=kD b9
 replace HB:=bD HB
 have h1:0 ≤ (a2:Int):=of_decide_eq_true (by assumption)
 have h2:a2 < (l1.length:Int):=of_decide_eq_true (by assumption)
 obtain ⟨d9,i5,c0,d0⟩:=at_T23 m0.out a2 h1 h2
 have b1:=d0
 have b2:=c0
 cases i5
 replace c0:=(HB.out.cell (World.block_lt_of_cell? w _ c0)).trans c0
 replace d0:=(HB.out.cell (World.block_lt_of_cell? w _ d0)).trans d0
 replace h1:=eq_true h1
 replace h2:=eq_true h2
 have h3:0 ≤ (a2:Int):=of_decide_eq_true (by assumption)
 have h4:a2 < (b8.length:Int):=of_decide_eq_true (by assumption)
 obtain ⟨d6,h5,h6,i6,d1,d2,d7,d8⟩:=at_T45 h7.out a2 h3 h4
 have b3:=d2
 have b4:=d1
 cases i6
 replace d1:=(HB.out.cell (World.block_lt_of_cell? w _ d1)).trans d1
 replace d2:=(HB.out.cell (World.block_lt_of_cell? w _ d2)).trans d2
 have e3:=A_ d8
 have i0:=A_ d7
 clear d8 d7
 replace h3:=eq_true h3
 replace h4:=eq_true h4
 refine start_ (n:=12) (S:=fun w'=>w'.cell? ⟨e8,0,none⟩ = some (.slice e0 d4.length e1) ∧ w'.cell? ⟨e8,1,none⟩ = some (.slice (some d6) b8.length e2) ∧ w'.cell? (d9.add ((a2).toNat * 2)) = some (.int .i64 ((rd_T23 l1 a2).f0)) ∧ w'.cell? ⟨(d9.add ((a2).toNat * 2)).block,(d9.add ((a2).toNat * 2)).off + 1,none⟩ = some (.int .i64 ((rd_T23 l1 a2).f1)) ∧ w'.cell? (d6.add ((a2).toNat * 2)) = some (.int .i64 ((rd_T45 b8 a2).f0)) ∧ w'.cell? ⟨(d6.add ((a2).toNat * 2)).block,(d6.add ((a2).toNat * 2)).off + 1,none⟩ = some (.slice h5 ((rd_T45 b8 a2).f1).length h6)) (ds:=[]) (ba 12 0) (by kernel_rfl) rfl rfl ⟨cz b7 0,cz b7 1,((HB.out.cell (World.block_lt_of_cell? w _ b2)).trans b2),((HB.out.cell (World.block_lt_of_cell? w _ b1)).trans b1),((HB.out.cell (World.block_lt_of_cell? w _ b4)).trans b4),((HB.out.cell (World.block_lt_of_cell? w _ b3)).trans b3)⟩ (fun hHeld=>?_);refine with_tabW shares_net_level.tab1 shares_net_level.bits1 (fun HT_ HW_=>?_)
 generalize w9.drew = m7 at b7 b9 HB e3 c0 d0 d1 d2 hHeld ⊢
 refine pq 0 7 1 HT_ ?_
 refine pq 1 8 3 HT_ ?_
 refine pq 2 9 7 HT_ ?_
 refine pq 4 11 23 HT_ ?_
 refine pq 6 13 87 HT_ ?_
 refine tq 3 10 95 HT_ HW_ hHeld ?_
 refine tq 5 12 127 HT_ HW_ hHeld ?_
 refine pq 7 14 255 HT_ ?_
 refine pq 8 15 511 HT_ ?_
 refine tq 9 16 1023 HT_ HW_ hHeld ?_
 refine oq 10 17 2047 HT_ (fun K hK=>?_)
 refine gq Try.func96 #[.agg #[.int .i64 ((rd_T23 l1 a2).f0),.int .i64 ((rd_T23 l1 a2).f1)],.int .i64 ((rd_T45 b8 a2).f0)] ?_
 with_reducible refine (shares_over.calls k ((rd_T23 l1 a2).f0) ((rd_T23 l1 a2).f1) ((rd_T45 b8 a2).f0) h0 h8 _ A7.out).mono ?_
 rintro e l6 ⟨rfl,hb⟩
 refine ⟨_,rfl,?_⟩
 replace b7:=kB b7 hb
 replace b9:=kB b9 hb
 replace HB:=bB HB hb
 (try clear hb)
 refine hK.out _ _ ⟨cz b7 0,cz b7 1,((HB.out.cell (World.block_lt_of_cell? w _ b2)).trans b2),((HB.out.cell (World.block_lt_of_cell? w _ b1)).trans b1),((HB.out.cell (World.block_lt_of_cell? w _ b4)).trans b4),((HB.out.cell (World.block_lt_of_cell? w _ b3)).trans b3)⟩ (fun hHeld=>?_)
 clear hK K
 refine nq 17 ?_
 refine one_ (i:=11) (N:=none) (ba 12 4095) rfl rfl (one_of HT_.out (by kernel_rfl)) (by decide) (fun K hK=>?_)
 have m4:l6.cell? ⟨b6,0,none⟩ = some (.int .i64 0):=cz b9 0
 have l7:=blk_frozen b9.out 0
 have i1:=b5.out
 have i2:=d3.out
 have m5:l6.cell? ⟨b6,1,none⟩ = some (.int .i64 0):=cz b9 1
 have l8:=blk_frozen b9.out 1
 have i3:=b5.out
 have i4:=d3.out
 refine skip_ (w1:=?_) (by rfl) rfl ?_ ?_
 rotate_left
 ·go_simp
  rfl
 refine hK.out _ _ ⟨((cell_far (p:=⟨b6,_,none⟩) b5.out _).trans (((cell_far (p:=⟨b6,_,none⟩) b5.out _).trans (hHeld.1)))),((cell_far (p:=⟨b6,_,none⟩) b5.out _).trans (((cell_far (p:=⟨b6,_,none⟩) b5.out _).trans (hHeld.2.1)))),((cell_far (p:=⟨b6,_,none⟩) (by first | exact Nat.ne_of_lt (Nat.lt_of_lt_of_le (by have:=World.block_lt_of_cell? _ _ b2;first | rwa [add_block] at this | exact this) b0.out) | (rw [add_block];exact Nat.ne_of_lt (Nat.lt_of_lt_of_le (by have:=World.block_lt_of_cell? _ _ b2;first | rwa [add_block] at this | exact this) b0.out)) | (show (Addr.add _ _).block ≠ _;rw [add_block];exact Nat.ne_of_lt (Nat.lt_of_lt_of_le (by have:=World.block_lt_of_cell? _ _ b2;first | rwa [add_block] at this | exact this) b0.out)) | (dsimp only;exact Nat.ne_of_lt (Nat.lt_of_lt_of_le (by have:=World.block_lt_of_cell? _ _ b2;first | rwa [add_block] at this | exact this) b0.out))) _).trans (((cell_far (p:=⟨b6,_,none⟩) (by first | exact Nat.ne_of_lt (Nat.lt_of_lt_of_le (by have:=World.block_lt_of_cell? _ _ b2;first | rwa [add_block] at this | exact this) b0.out) | (rw [add_block];exact Nat.ne_of_lt (Nat.lt_of_lt_of_le (by have:=World.block_lt_of_cell? _ _ b2;first | rwa [add_block] at this | exact this) b0.out)) | (show (Addr.add _ _).block ≠ _;rw [add_block];exact Nat.ne_of_lt (Nat.lt_of_lt_of_le (by have:=World.block_lt_of_cell? _ _ b2;first | rwa [add_block] at this | exact this) b0.out)) | (dsimp only;exact Nat.ne_of_lt (Nat.lt_of_lt_of_le (by have:=World.block_lt_of_cell? _ _ b2;first | rwa [add_block] at this | exact this) b0.out))) _).trans (hHeld.2.2.1)))),((cell_far (p:=⟨b6,_,none⟩) (by first | exact Nat.ne_of_lt (Nat.lt_of_lt_of_le (by have:=World.block_lt_of_cell? _ _ b1;first | rwa [add_block] at this | exact this) b0.out) | (rw [add_block];exact Nat.ne_of_lt (Nat.lt_of_lt_of_le (by have:=World.block_lt_of_cell? _ _ b1;first | rwa [add_block] at this | exact this) b0.out)) | (show (Addr.add _ _).block ≠ _;rw [add_block];exact Nat.ne_of_lt (Nat.lt_of_lt_of_le (by have:=World.block_lt_of_cell? _ _ b1;first | rwa [add_block] at this | exact this) b0.out)) | (dsimp only;exact Nat.ne_of_lt (Nat.lt_of_lt_of_le (by have:=World.block_lt_of_cell? _ _ b1;first | rwa [add_block] at this | exact this) b0.out))) _).trans (((cell_far (p:=⟨b6,_,none⟩) (by first | exact Nat.ne_of_lt (Nat.lt_of_lt_of_le (by have:=World.block_lt_of_cell? _ _ b1;first | rwa [add_block] at this | exact this) b0.out) | (rw [add_block];exact Nat.ne_of_lt (Nat.lt_of_lt_of_le (by have:=World.block_lt_of_cell? _ _ b1;first | rwa [add_block] at this | exact this) b0.out)) | (show (Addr.add _ _).block ≠ _;rw [add_block];exact Nat.ne_of_lt (Nat.lt_of_lt_of_le (by have:=World.block_lt_of_cell? _ _ b1;first | rwa [add_block] at this | exact this) b0.out)) | (dsimp only;exact Nat.ne_of_lt (Nat.lt_of_lt_of_le (by have:=World.block_lt_of_cell? _ _ b1;first | rwa [add_block] at this | exact this) b0.out))) _).trans (hHeld.2.2.2.1)))),((cell_far (p:=⟨b6,_,none⟩) (by first | exact Nat.ne_of_lt (Nat.lt_of_lt_of_le (by have:=World.block_lt_of_cell? _ _ b4;first | rwa [add_block] at this | exact this) b0.out) | (rw [add_block];exact Nat.ne_of_lt (Nat.lt_of_lt_of_le (by have:=World.block_lt_of_cell? _ _ b4;first | rwa [add_block] at this | exact this) b0.out)) | (show (Addr.add _ _).block ≠ _;rw [add_block];exact Nat.ne_of_lt (Nat.lt_of_lt_of_le (by have:=World.block_lt_of_cell? _ _ b4;first | rwa [add_block] at this | exact this) b0.out)) | (dsimp only;exact Nat.ne_of_lt (Nat.lt_of_lt_of_le (by have:=World.block_lt_of_cell? _ _ b4;first | rwa [add_block] at this | exact this) b0.out))) _).trans (((cell_far (p:=⟨b6,_,none⟩) (by first | exact Nat.ne_of_lt (Nat.lt_of_lt_of_le (by have:=World.block_lt_of_cell? _ _ b4;first | rwa [add_block] at this | exact this) b0.out) | (rw [add_block];exact Nat.ne_of_lt (Nat.lt_of_lt_of_le (by have:=World.block_lt_of_cell? _ _ b4;first | rwa [add_block] at this | exact this) b0.out)) | (show (Addr.add _ _).block ≠ _;rw [add_block];exact Nat.ne_of_lt (Nat.lt_of_lt_of_le (by have:=World.block_lt_of_cell? _ _ b4;first | rwa [add_block] at this | exact this) b0.out)) | (dsimp only;exact Nat.ne_of_lt (Nat.lt_of_lt_of_le (by have:=World.block_lt_of_cell? _ _ b4;first | rwa [add_block] at this | exact this) b0.out))) _).trans (hHeld.2.2.2.2.1)))),((cell_far (p:=⟨b6,_,none⟩) (by first | exact Nat.ne_of_lt (Nat.lt_of_lt_of_le (by have:=World.block_lt_of_cell? _ _ b3;first | rwa [add_block] at this | exact this) b0.out) | (rw [add_block];exact Nat.ne_of_lt (Nat.lt_of_lt_of_le (by have:=World.block_lt_of_cell? _ _ b3;first | rwa [add_block] at this | exact this) b0.out)) | (show (Addr.add _ _).block ≠ _;rw [add_block];exact Nat.ne_of_lt (Nat.lt_of_lt_of_le (by have:=World.block_lt_of_cell? _ _ b3;first | rwa [add_block] at this | exact this) b0.out)) | (dsimp only;exact Nat.ne_of_lt (Nat.lt_of_lt_of_le (by have:=World.block_lt_of_cell? _ _ b3;first | rwa [add_block] at this | exact this) b0.out))) _).trans (((cell_far (p:=⟨b6,_,none⟩) (by first | exact Nat.ne_of_lt (Nat.lt_of_lt_of_le (by have:=World.block_lt_of_cell? _ _ b3;first | rwa [add_block] at this | exact this) b0.out) | (rw [add_block];exact Nat.ne_of_lt (Nat.lt_of_lt_of_le (by have:=World.block_lt_of_cell? _ _ b3;first | rwa [add_block] at this | exact this) b0.out)) | (show (Addr.add _ _).block ≠ _;rw [add_block];exact Nat.ne_of_lt (Nat.lt_of_lt_of_le (by have:=World.block_lt_of_cell? _ _ b3;first | rwa [add_block] at this | exact this) b0.out)) | (dsimp only;exact Nat.ne_of_lt (Nat.lt_of_lt_of_le (by have:=World.block_lt_of_cell? _ _ b3;first | rwa [add_block] at this | exact this) b0.out))) _).trans (hHeld.2.2.2.2.2))))⟩ (fun hHeld=>?_)
 clear hK K
 refine done_ (done_of HT_.out (by kernel_rfl)) ?_
 try go_wp2
 refine bodyPost_ret (results_cell_row rfl _ _ b6 23 #[.int .i64 h0,.int .i64 h8] (0,0) _ rfl (by (with_reducible repeat (first | refine blk_drewN ?_ _ | refine blk_drew ?_ | refine blk_alloc ?_ _));refine blk_put (cs:=#[.int .i64 h0,.int .i64 0]) ?_ 1 _ rfl;(with_reducible repeat (first | refine blk_drewN ?_ _ | refine blk_drew ?_ | refine blk_alloc ?_ _));refine blk_put (cs:=#[.int .i64 0,.int .i64 0]) ?_ 0 _ rfl;(with_reducible repeat (first | refine blk_drewN ?_ _ | refine blk_drew ?_ | refine blk_alloc ?_ _));exact b9.out) Try.underlying23 rfl (by kernel_rfl)) rfl ?_
 exact ⟨rfl,bl HB⟩
end Go.Proofs.Ytjohcjfmlhihbaa.G
namespace Go.Proofs.Ytjohcjfmlhihbaa.G
open Go.RowKit Go.Proofs.YtjohcjfmlhihbaaW.PrintWords Go.Proofs.YtjohcjfmlhihbaaW.PrintLast Go.Proofs.YtjohcjfmlhihbaaW.PrintMore
set_option maxHeartbeats 8000000
set_option maxRecDepth 100000
attribute [local go_sem] cond_true cond_false fld23_0 fld23_1 fld45_0 fld45_1 fld109_0 fld109_1 fld94_0 fld94_1 max2_int min2_int max_two min_two max_three min_three max_four min_four
attribute [local go_sem high] eqA23
mutual
def shares_net_holds.j0:Nat → List (S23) → Int → Int → Bool → List Int → List (S45) → Option (Bool)
 | 0,_,_,_,_,_,_=>none
 | k + 1,x1,x2,x3,x36,c0,b9=>if x36 = true then (some false) else (shares_net_holds.l0 k x1 x2 x3 (b9.length:Int) 0 c0 b9)
def shares_net_holds.l0:Nat → List (S23) → Int → Int → Int → Int → List Int → List (S45) → Option (Bool)
 | 0,_,_,_,_,_,_,_=>none
 | k + 1,x1,x2,x3,m2,h9,c0,b9=>if h9 < m2 then ((shares_net_has.f k c0 b9 h9 x2).bind fun e9=>(if e9 = true then ((shares_net_level.f k c0 b9 x1 h9).bind fun d8=>((shares_net_level.f k c0 b9 x1 x3).bind fun d9=>((shares_compare.f k d8.1 d8.2 d9.1 d9.2).bind fun e0=>(if e0 > 0 then (some false) else (shares_net_holds.l0 k x1 x2 x3 m2 (wrap64 (h9 + 1)) c0 b9))))) else (shares_net_holds.l0 k x1 x2 x3 m2 (wrap64 (h9 + 1)) c0 b9))) else (some true)
end
def shares_net_holds.f (k:Nat) (b1:List Int) (b2:List (S45)) (l1:List (S23)) (a2:Int) (a3:Int):Option (Bool):=(shares_within.f a2 0 (wrap64 ((b1.length:Int) - 1))).bind fun e4=>(if e4 = true then ((shares_net_has.f k b1 b2 a3 a2).bind fun e1=>(if e1 = true then ((shares_net_load.f k b1 b2 l1 a2).bind fun d1=>(if 0 ≤ a2 then (if a2 < (b1.length:Int) then ((shares_whole.f (rd b1 a2)).bind fun d2=>(shares_net_holds.j0 k l1 a2 a3 (!(d1.1 == d2.1) || (!(d1.2 == d2.2))) b1 b2)) else (none)) else (none))) else (shares_net_holds.j0 k l1 a2 a3 true b1 b2))) else (shares_net_holds.j0 k l1 a2 a3 true b1 b2))
theorem shares_net_holds.mono_l:∀ k,(∀ y0 y1 y2 y3 y4 y5,LeO (shares_net_holds.j0 k y0 y1 y2 y3 y4 y5) (shares_net_holds.j0 (k + 1) y0 y1 y2 y3 y4 y5)) ∧ (∀ y0 y1 y2 y3 y4 y5 y6,LeO (shares_net_holds.l0 k y0 y1 y2 y3 y4 y5 y6) (shares_net_holds.l0 (k + 1) y0 y1 y2 y3 y4 y5 y6))
 | 0=>⟨fun _ _ _ _ _ _ r h=>by simp [shares_net_holds.j0] at h,fun _ _ _ _ _ _ _ r h=>by simp [shares_net_holds.l0] at h⟩
 | k + 1=>by
  obtain ⟨j7,j8⟩:=shares_net_holds.mono_l k
  refine ⟨?_,?_⟩
  ·intro y0 y1 y2 y3 y4 y5
   unfold shares_net_holds.j0
   repeat' first
   | (with_reducible first | exact j7 _ _ _ _ _ _ | exact j8 _ _ _ _ _ _ _ | exact shares_compare.mono _ _ _ _ _ | exact shares_net_has.mono _ _ _ _ _ | exact shares_net_level.mono _ _ _ _ _ | exact shares_net_load.mono _ _ _ _ _ | exact LeO.refl _ | exact LeO.none _ | refine LeO.ite ?_ ?_ | refine LeO.bind ?_ (fun _=>?_))
   | exact LeO.none _ | refine LeO.ite ?_ ?_ | refine LeO.bind ?_ (fun _=>?_)
  intro y0 y1 y2 y3 y4 y5 y6
  unfold shares_net_holds.l0
  repeat' first
  | (with_reducible first | exact j7 _ _ _ _ _ _ | exact j8 _ _ _ _ _ _ _ | exact shares_compare.mono _ _ _ _ _ | exact shares_net_has.mono _ _ _ _ _ | exact shares_net_level.mono _ _ _ _ _ | exact shares_net_load.mono _ _ _ _ _ | exact LeO.refl _ | exact LeO.none _ | refine LeO.ite ?_ ?_ | refine LeO.bind ?_ (fun _=>?_))
  | exact LeO.none _ | refine LeO.ite ?_ ?_ | refine LeO.bind ?_ (fun _=>?_)
theorem shares_net_holds.mono:∀ a0 a1 a2 a3 a4 k,LeO (shares_net_holds.f k a0 a1 a2 a3 a4) (shares_net_holds.f (k + 1) a0 a1 a2 a3 a4):=by
 intro a0 a1 a2 a3 a4 k
 obtain ⟨j7,j8⟩:=shares_net_holds.mono_l k
 unfold shares_net_holds.f
 repeat' first
   | (with_reducible first | exact j7 _ _ _ _ _ _ | exact j8 _ _ _ _ _ _ _ | exact shares_compare.mono _ _ _ _ _ | exact shares_net_has.mono _ _ _ _ _ | exact shares_net_level.mono _ _ _ _ _ | exact shares_net_load.mono _ _ _ _ _ | exact LeO.refl _ | exact LeO.none _ | refine LeO.ite ?_ ?_ | refine LeO.bind ?_ (fun _=>?_))
   | exact LeO.none _ | refine LeO.ite ?_ ?_ | refine LeO.bind ?_ (fun _=>?_)
def shares_net_holds.T1:Bool × List (List Nat × List Nat):=(true,[([],[]),([],[]),([1],[1]),([2],[2]),([3],[3]),([0,4],[0,4]),([5],[5]),([6,5],[6]),([7],[7]),([7],[7]),([7],[7]),([8,9,10,7,7],[7,8,9,10]),([11,7],[7,11]),([7,12],[7,12]),([13,11],[13]),([14],[14]),([14],[14]),([14],[14]),([15,16,17,14,14],[14,15,16,17]),([14],[14]),([19,14],[14,19]),([14],[14]),([20,21,14],[14,20,21]),([22,14],[14,22]),([23,18,14],[14,23]),([18,24,14],[14,18,24]),([14,25],[14,25])])
def shares_net_holds.B1:List Nat:=[0,0,2,6,14,31,63,127,255,255,255,2047,4095,8191,16383,32767,32767,32767,262143,32767,557055,32767,3702783,7897087,16777215,33554431,67108863]
theorem shares_net_holds.tab1:rtab .any (opsOf Try.f76 1) = shares_net_holds.T1:=by kernel_rfl
theorem shares_net_holds.bits1:waitsOk shares_net_holds.T1.2 shares_net_holds.B1 = true:=by kernel_rfl
def shares_net_holds.T6:Bool × List (List Nat × List Nat):=(true,[([],[]),([],[]),([],[]),([0,1,2],[0,1,2]),([3,3],[3]),([4],[4]),([4],[4]),([4],[4]),([5,6,7,4,4],[4,5,6,7]),([4],[4]),([4],[4]),([4],[4]),([9,10,11,8,4],[4,9,10,11]),([8,12,12,4],[4,8,12]),([13,4],[4,13]),([4,14],[4,14])])
def shares_net_holds.B6:List Nat:=[0,0,0,7,15,31,31,31,255,31,31,31,4095,8191,16383,32767]
theorem shares_net_holds.tab6:rtab .any (opsOf Try.f76 6) = shares_net_holds.T6:=by kernel_rfl
theorem shares_net_holds.bits6:waitsOk shares_net_holds.T6.2 shares_net_holds.B6 = true:=by kernel_rfl
theorem shares_net_holds.calls (k:Nat) (d0:Option Addr) (b6:Nat) (b1:List Int) (b7:Option Addr) (b8:Nat) (b2:List (S45)) (A1:Option Addr) (c1:Nat) (l1:List (S23)) (a2:Int) (a3:Int) (r:Bool) (w:World) (h0:Kd.C (Kd.int .i64) w d0 b1.length b1) (h1:b1.length ≤ b6) (h2:Kd.C k45 w b7 b2.length b2) (h3:b2.length ≤ b8) (m6:Kd.C k23 w A1 l1.length l1) (m7:l1.length ≤ c1) (h:shares_net_holds.f k b1 b2 l1 a2 a3 = some r) :
  Calls Try.prog 76 #[.agg #[.slice d0 b1.length b6,.slice b7 b2.length b8],.slice A1 l1.length c1,.int .i64 a2,.int .i64 a3] w fun e w'=>e = .returned (.bool r) ∧ Below w.heap.size w w':=by
 have m8:=Try.underlying109
 have d3:=A_ h0
 have d4:=A_ h1
 clear h0 h1
 have d5:=A_ h2
 have d6:=A_ h3
 clear h2 h3
 have i0:=A_ m6
 have i1:=A_ m7
 clear m6 m7
 have HB:=A_ (Below.refl w.heap.size w)
 have H:((shares_within.f a2 0 (wrap64 ((b1.length:Int) - 1))).bind fun e4=>(if e4 = true then ((shares_net_has.f k b1 b2 a3 a2).bind fun e1=>(if e1 = true then ((shares_net_load.f k b1 b2 l1 a2).bind fun d1=>(if 0 ≤ a2 then (if a2 < (b1.length:Int) then ((shares_whole.f (rd b1 a2)).bind fun d2=>(shares_net_holds.j0 k l1 a2 a3 (!(d1.1 == d2.1) || (!(d1.2 == d2.2))) b1 b2)) else (none)) else (none))) else (shares_net_holds.j0 k l1 a2 a3 true b1 b2))) else (shares_net_holds.j0 k l1 a2 a3 true b1 b2))) = some r:=h
 clear h
 have m3:=A_ H
 clear H
 go_enter Try.func76,Try.ntmps76
 go_upto_region 1 with (first | ((with_reducible refine gate_dst (N:=4) rfl ?_);refine bx 4 #[.slice d0 b1.length b6,.slice b7 b2.length b8] 109 ?_;intro b5 hg w6 hbox hb;have b0:=A_ hbox;have i2:=gw hg HB;have m9:=i2;replace HB:=bB HB hb;clear hb hbox hg))
 (try simp only [Act.put,List.setIfInBounds_toArray,List.set_cons_zero,List.set_cons_succ])
 go_cut [36] (fun n9 wc=>∃ (kq:Nat) (e2:Bool),n9 = .bool e2 ∧ Aside0 (shares_net_holds.j0 kq l1 a2 a3 e2 b1 b2 = some r) ∧ Aside0 (kq ≤ k) ∧ Aside0 (wc.heap[b5]? = some (.cells #[(.slice d0 b1.length b6),(.slice b7 b2.length b8)] 109 (0,0))) ∧ Aside0 (Below w.heap.size w wc))
 case first =>
  have H:=m3.out
  clear m3
  replace H:=Option.bind_eq_some_iff.mp H
  obtain ⟨e4,n0,H⟩:=H
  replace H:(if e4 = true then ((shares_net_has.f k b1 b2 a3 a2).bind fun e1=>(if e1 = true then ((shares_net_load.f k b1 b2 l1 a2).bind fun d1=>(if 0 ≤ a2 then (if a2 < (b1.length:Int) then ((shares_whole.f (rd b1 a2)).bind fun d2=>(shares_net_holds.j0 k l1 a2 a3 (!(d1.1 == d2.1) || (!(d1.2 == d2.2))) b1 b2)) else (none)) else (none))) else (shares_net_holds.j0 k l1 a2 a3 true b1 b2))) else (shares_net_holds.j0 k l1 a2 a3 true b1 b2)) = some r:=H
  have A7:=A_ n0
  clear n0
  by_cases c8:e4 = true
  case neg =>
   replace c8:=Bool.eq_false_iff.mpr c8
   subst c8
   rw [if_neg (show ¬ (false = true) by decide)] at H
   have H':=A_ H
   clear H
   try go_wp2
   replace b0:=kD b0
   replace HB:=bD HB
   refine st 27 (fun w'=>w'.cell? ⟨b5,0,none⟩ = some (.slice d0 b1.length b6) ∧ w'.cell? ⟨b5,1,none⟩ = some (.slice b7 b2.length b8)) [] shares_net_holds.tab1 shares_net_holds.bits1 (fun hHeld HT_ HW_=>?_)
   generalize w6.drew = o3 at b0 HB hHeld ⊢
   refine pq 0 10 1 HT_ ?_
   refine pq 1 11 3 HT_ ?_
   refine tq 2 12 7 HT_ HW_ hHeld ?_
   refine pq 3 13 15 HT_ ?_
   refine pq 4 14 31 HT_ ?_
   refine oq 5 15 63 HT_ (fun K hK=>?_)
   refine gq Try.func92 #[.int .i64 a2,.int .i64 0,.int .i64 (wrap64 ((b1.length:Int) - 1))] ?_
   with_reducible refine (shares_within.calls a2 0 (wrap64 ((b1.length:Int) - 1)) false _ A7.out).mono ?_
   rintro e w' ⟨rfl,⟨nd,rfl⟩⟩
   refine ⟨_,rfl,?_⟩
   refine hz hK (fun hHeld=>?_)
   clear hK K
   refine nq 15 ?_
   refine pq 6 16 127 HT_ ?_
   refine pq 7 17 255 HT_ ?_
   refine pu 8 18 511 HT_ ?_
   refine pu 9 19 1023 HT_ ?_
   refine pu 10 20 2047 HT_ ?_
   refine pu 11 21 4095 HT_ ?_
   refine pu 12 22 8191 HT_ ?_
   refine pq 13 23 16383 HT_ ?_
   refine pq 14 24 32767 HT_ ?_
   refine pu 15 25 65535 HT_ ?_
   refine pu 16 26 131071 HT_ ?_
   refine pu 17 27 262143 HT_ ?_
   refine pu 18 28 524287 HT_ ?_
   refine pu 19 29 1048575 HT_ ?_
   refine pu 20 30 2097151 HT_ ?_
   refine pu 21 31 4194303 HT_ ?_
   refine pu 22 32 8388607 HT_ ?_
   refine pu 23 33 16777215 HT_ ?_
   refine pu 24 34 33554431 HT_ ?_
   refine pu 25 35 67108863 HT_ ?_
   refine pq 26 36 134217727 HT_ ?_
   refine done_ (done_of HT_.out (by kernel_rfl)) ?_
   try go_wp2
   go_meet
   case rel=>exact ⟨_,(true),rfl,H',⟨by first | omega | exact Nat.le_refl _⟩,⟨by exact b0.out⟩,⟨bl HB⟩⟩
  subst c8
  rw [if_pos rfl] at H
  replace H:=Option.bind_eq_some_iff.mp H
  obtain ⟨e1,n1,H⟩:=H
  replace H:(if e1 = true then ((shares_net_load.f k b1 b2 l1 a2).bind fun d1=>(if 0 ≤ a2 then (if a2 < (b1.length:Int) then ((shares_whole.f (rd b1 a2)).bind fun d2=>(shares_net_holds.j0 k l1 a2 a3 (!(d1.1 == d2.1) || (!(d1.2 == d2.2))) b1 b2)) else (none)) else (none))) else (shares_net_holds.j0 k l1 a2 a3 true b1 b2)) = some r:=H
  have A9:=A_ n1
  clear n1
  by_cases c10:e1 = true
  case neg =>
   replace c10:=Bool.eq_false_iff.mpr c10
   subst c10
   rw [if_neg (show ¬ (false = true) by decide)] at H
   have H':=A_ H
   clear H
   try go_wp2
   replace b0:=kD b0
   replace HB:=bD HB
   refine st 27 (fun w'=>w'.cell? ⟨b5,0,none⟩ = some (.slice d0 b1.length b6) ∧ w'.cell? ⟨b5,1,none⟩ = some (.slice b7 b2.length b8)) [] shares_net_holds.tab1 shares_net_holds.bits1 (fun hHeld HT_ HW_=>?_)
   generalize w6.drew = o4 at b0 HB hHeld ⊢
   refine pq 0 10 1 HT_ ?_
   refine pq 1 11 3 HT_ ?_
   refine tq 2 12 7 HT_ HW_ hHeld ?_
   refine pq 3 13 15 HT_ ?_
   refine pq 4 14 31 HT_ ?_
   refine oq 5 15 63 HT_ (fun K hK=>?_)
   refine gq Try.func92 #[.int .i64 a2,.int .i64 0,.int .i64 (wrap64 ((b1.length:Int) - 1))] ?_
   with_reducible refine (shares_within.calls a2 0 (wrap64 ((b1.length:Int) - 1)) true _ A7.out).mono ?_
   rintro e w' ⟨rfl,⟨nd,rfl⟩⟩
   refine ⟨_,rfl,?_⟩
   refine hz hK (fun hHeld=>?_)
   clear hK K
   refine nq 15 ?_
   refine pq 6 16 127 HT_ ?_
   refine pq 7 17 255 HT_ ?_
   refine pq 9 19 767 HT_ ?_
   refine pq 10 20 1791 HT_ ?_
   refine tq 8 18 2047 HT_ HW_ hHeld ?_
   refine oq 11 21 4095 HT_ (fun K hK=>?_)
   refine gq Try.func104 #[.agg #[.slice d0 b1.length b6,.slice b7 b2.length b8],.int .i64 a3,.int .i64 a2] ?_
   with_reducible refine (shares_net_has.calls k _ _ b1 _ _ b2 a3 a2 false _ ?side1 ?side2 ?side3 ?side4 A9.out).mono ?_
   (case side1=>exact cB d3 HB)
   (case side2=>exact d4.out)
   (case side3=>exact cB d5 HB)
   (case side4=>exact d6.out)
   rintro e o5 ⟨rfl,hb⟩
   refine ⟨_,rfl,?_⟩
   replace b0:=kB b0 hb
   replace HB:=bB HB hb
   (try clear hb)
   refine hz hK (fun hHeld=>?_)
   clear hK K
   refine nq 21 ?_
   refine pq 12 22 8191 HT_ ?_
   refine pq 13 23 16383 HT_ ?_
   refine pq 14 24 32767 HT_ ?_
   refine pu 15 25 65535 HT_ ?_
   refine pu 16 26 131071 HT_ ?_
   refine pu 17 27 262143 HT_ ?_
   refine pu 18 28 524287 HT_ ?_
   refine pu 19 29 1048575 HT_ ?_
   refine pu 20 30 2097151 HT_ ?_
   refine pu 21 31 4194303 HT_ ?_
   refine pu 22 32 8388607 HT_ ?_
   refine pu 23 33 16777215 HT_ ?_
   refine pu 24 34 33554431 HT_ ?_
   refine pu 25 35 67108863 HT_ ?_
   refine pq 26 36 134217727 HT_ ?_
   refine done_ (done_of HT_.out (by kernel_rfl)) ?_
   try go_wp2
   go_meet
   case rel=>exact ⟨_,(true),rfl,H',⟨by first | omega | exact Nat.le_refl _⟩,⟨by exact b0.out⟩,⟨bl HB⟩⟩
  subst c10
  rw [if_pos rfl] at H
  replace H:=Option.bind_eq_some_iff.mp H
  obtain ⟨⟨i3,i4⟩,A110,H⟩:=H
  dsimp only at H
  have o0:=A_ A110
  clear A110
  replace H:=gd H
  obtain ⟨n2,H⟩:=H
  have h4:=decide_eq_true n2
  clear n2
  (first | rw [h4] | (simp only [i64_w,i32_w];rw [h4]) | skip)
  replace H:=gd H
  obtain ⟨n3,H⟩:=H
  have n4:=decide_eq_true n3
  clear n3
  replace H:=Option.bind_eq_some_iff.mp H
  obtain ⟨⟨i5,i6⟩,A140,H⟩:=H
  dsimp only at H
  have o1:=A_ A140
  clear A140
  have H':=A_ H
  clear H
  try go_wp2
  replace b0:=kD b0
  replace HB:=bD HB
  have h5:0 ≤ (a2:Int):=of_decide_eq_true (by assumption)
  have h6:a2 < (b1.length:Int):=of_decide_eq_true (by assumption)
  obtain ⟨e3,m4,d7⟩:=Kd.at_int d3.out a2 h5 h6
  have b4:=d7
  cases m4
  replace d7:=(HB.out.cell (World.block_lt_of_cell? w _ d7)).trans d7
  replace h5:=eq_true h5
  replace h6:=eq_true h6
  refine start_ (n:=27) (S:=fun w'=>w'.cell? ⟨b5,0,none⟩ = some (.slice (some e3) b1.length b6) ∧ w'.cell? ⟨b5,1,none⟩ = some (.slice b7 b2.length b8) ∧ w'.cell? (e3.add (a2).toNat) = some (.int .i64 (rd b1 a2))) (ds:=[]) (ba 27 0) (by kernel_rfl) rfl rfl ⟨cz b0 0,cz b0 1,((HB.out.cell (World.block_lt_of_cell? w _ b4)).trans b4)⟩ (fun hHeld=>?_);refine with_tabW shares_net_holds.tab1 shares_net_holds.bits1 (fun HT_ HW_=>?_)
  generalize w6.drew = o6 at b0 HB d7 hHeld ⊢
  refine pq 0 10 1 HT_ ?_
  refine pq 1 11 3 HT_ ?_
  refine tq 2 12 7 HT_ HW_ hHeld ?_
  refine pq 3 13 15 HT_ ?_
  refine pq 4 14 31 HT_ ?_
  refine oq 5 15 63 HT_ (fun K hK=>?_)
  refine gq Try.func92 #[.int .i64 a2,.int .i64 0,.int .i64 (wrap64 ((b1.length:Int) - 1))] ?_
  with_reducible refine (shares_within.calls a2 0 (wrap64 ((b1.length:Int) - 1)) true _ A7.out).mono ?_
  rintro e w' ⟨rfl,⟨nd,rfl⟩⟩
  refine ⟨_,rfl,?_⟩
  refine hK.out _ _ ⟨cz b0 0,cz b0 1,((HB.out.cell (World.block_lt_of_cell? w _ b4)).trans b4)⟩ (fun hHeld=>?_)
  clear hK K
  refine nq 15 ?_
  refine pq 6 16 127 HT_ ?_
  refine pq 7 17 255 HT_ ?_
  refine pq 9 19 767 HT_ ?_
  refine pq 10 20 1791 HT_ ?_
  refine tq 8 18 2047 HT_ HW_ hHeld ?_
  refine oq 11 21 4095 HT_ (fun K hK=>?_)
  refine gq Try.func104 #[.agg #[.slice (some e3) b1.length b6,.slice b7 b2.length b8],.int .i64 a3,.int .i64 a2] ?_
  with_reducible refine (shares_net_has.calls k _ _ b1 _ _ b2 a3 a2 true _ ?side1 ?side2 ?side3 ?side4 A9.out).mono ?_
  (case side1=>exact cB d3 HB)
  (case side2=>exact d4.out)
  (case side3=>exact cB d5 HB)
  (case side4=>exact d6.out)
  rintro e o7 ⟨rfl,hb⟩
  refine ⟨_,rfl,?_⟩
  replace b0:=kB b0 hb
  replace HB:=bB HB hb
  (try clear hb)
  refine hK.out _ _ ⟨cz b0 0,cz b0 1,((HB.out.cell (World.block_lt_of_cell? w _ b4)).trans b4)⟩ (fun hHeld=>?_)
  clear hK K
  refine nq 21 ?_
  refine pq 12 22 8191 HT_ ?_
  refine pq 13 23 16383 HT_ ?_
  refine pq 14 24 32767 HT_ ?_
  refine pq 16 26 98303 HT_ ?_
  refine pq 17 27 229375 HT_ ?_
  refine pq 19 29 753663 HT_ ?_
  refine pq 21 31 2850815 HT_ ?_
  refine tq 15 25 2883583 HT_ HW_ hHeld ?_
  refine tq 20 30 3932159 HT_ HW_ hHeld ?_
  refine pq 22 32 8126463 HT_ ?_
  refine tq 23 33 16515071 HT_ HW_ hHeld ?_
  refine oq 18 28 16777215 HT_ (fun K hK=>?_)
  refine gq Try.func107 #[.agg #[.slice (some e3) b1.length b6,.slice b7 b2.length b8],.slice A1 l1.length c1,.int .i64 a2] ?_
  with_reducible refine (shares_net_load.calls k _ _ b1 _ _ b2 _ _ l1 a2 i3 i4 _ ?side1 ?side2 ?side3 ?side4 ?side5 ?side6 o0.out).mono ?_
  (case side1=>exact cB d3 HB)
  (case side2=>exact d4.out)
  (case side3=>exact cB d5 HB)
  (case side4=>exact d6.out)
  (case side5=>exact cB i0 HB)
  (case side6=>exact i1.out)
  rintro e o8 ⟨rfl,hb⟩
  refine ⟨_,rfl,?_⟩
  replace b0:=kB b0 hb
  replace HB:=bB HB hb
  (try clear hb)
  refine hK.out _ _ ⟨cz b0 0,cz b0 1,((HB.out.cell (World.block_lt_of_cell? w _ b4)).trans b4)⟩ (fun hHeld=>?_)
  clear hK K
  refine nq 28 ?_
  refine oq 24 34 33554431 HT_ (fun K hK=>?_)
  refine gq Try.func64 #[.int .i64 (rd b1 a2)] ?_
  with_reducible refine (shares_whole.calls (rd b1 a2) i5 i6 _ o1.out).mono ?_
  rintro e o9 ⟨rfl,hb⟩
  refine ⟨_,rfl,?_⟩
  replace b0:=kB b0 hb
  replace HB:=bB HB hb
  (try clear hb)
  refine hK.out _ _ ⟨cz b0 0,cz b0 1,((HB.out.cell (World.block_lt_of_cell? w _ b4)).trans b4)⟩ (fun hHeld=>?_)
  clear hK K
  refine nq 34 ?_
  refine pq 25 35 67108863 HT_ ?_
  refine pq 26 36 134217727 HT_ ?_
  refine done_ (done_of HT_.out (by kernel_rfl)) ?_
  try go_wp2
  go_meet
  case rel=>exact ⟨_,((!(i3 == i5) || (!(i4 == i6)))),rfl,H',⟨by first | omega | exact Nat.le_refl _⟩,⟨by exact b0.out⟩,⟨bl HB⟩⟩
 case rest =>
  clear m3
  obtain ⟨kq,e2,rfl,HA,j9,b0,HB⟩:=hcut
  cases kq with
  | zero=>exact absurd HA.out (by simp [shares_net_holds.j0])
  | succ n5 =>
   have H:=HA.out
   clear HA
   simp only [shares_net_holds.j0] at H
   by_cases l5:e2 = true
   ·subst l5
    rw [if_pos rfl] at H
    obtain rfl:=Option.some.inj H
    go_wp2
    go_ret
    exact ⟨rfl,bl HB⟩
   replace l5:=Bool.eq_false_iff.mpr l5
   subst l5
   rw [if_neg (show ¬ (false = true) by decide)] at H
   have H':=A_ H
   clear H
   have l6:wc.cell? ⟨b5,0,none⟩ = some (.slice d0 b1.length b6):=cz b0 0
   have l7:wc.cell? ⟨b5,1,none⟩ = some (.slice b7 b2.length b8):=cz b0 1
   have l8:=blk_frozen b0.out 0
   have l9:=blk_frozen b0.out 1
   go_wp2
   go_loopg [40] n5 (fun kq o2 w'=>∃ (b3:Int),o2 = .int .i64 b3 ∧ Aside0 (shares_net_holds.l0 kq l1 a2 a3 (b2.length:Int) b3 b1 b2 = some r) ∧ Aside0 (kq ≤ n5) ∧ Aside0 (w'.heap[b5]? = some (.cells #[(.slice d0 b1.length b6),(.slice b7 b2.length b8)] 109 (0,0))) ∧ Aside0 (Below w.heap.size w w'))
   case atStart=>exact ⟨(0),rfl,H',⟨Nat.le_refl _⟩,⟨by exact b0.out⟩,⟨bl HB⟩⟩
   case round =>
    clear H'
    obtain ⟨b3,rfl,HA,m0,b0,HB⟩:=hrel
    cases gk with
    | zero=>exact absurd HA.out (by simp [shares_net_holds.l0])
    | succ k2 =>
     have H:=HA.out
     clear HA
     simp only [shares_net_holds.l0] at H
     by_cases h7:b3 < (b2.length:Int)
     case neg =>
      rw [if_neg h7] at H
      have i7:=decide_eq_false h7
      clear h7
      obtain rfl:=Option.some.inj H
      go_wp2
      go_ret
      exact ⟨rfl,bl HB⟩
     rw [if_pos h7] at H
     have i7:=decide_eq_true h7
     clear h7
     replace H:=Option.bind_eq_some_iff.mp H
     obtain ⟨e9,i8,H⟩:=H
     replace H:(if e9 = true then ((shares_net_level.f k2 b1 b2 l1 b3).bind fun d8=>((shares_net_level.f k2 b1 b2 l1 a3).bind fun d9=>((shares_compare.f k2 d8.1 d8.2 d9.1 d9.2).bind fun e0=>(if e0 > 0 then (some false) else (shares_net_holds.l0 k2 l1 a2 a3 (b2.length:Int) (wrap64 (b3 + 1)) b1 b2))))) else (shares_net_holds.l0 k2 l1 a2 a3 (b2.length:Int) (wrap64 (b3 + 1)) b1 b2)) = some r:=H
     have m5:=A_ i8
     clear i8
     by_cases m1:e9 = true
     case neg =>
      replace m1:=Bool.eq_false_iff.mpr m1
      subst m1
      rw [if_neg (show ¬ (false = true) by decide)] at H
      have H':=A_ H
      clear H
      try go_wp2
      replace b0:=kD b0
      replace HB:=bD HB
      refine st 16 (fun w'=>w'.cell? ⟨b5,0,none⟩ = some (.slice d0 b1.length b6) ∧ w'.cell? ⟨b5,1,none⟩ = some (.slice b7 b2.length b8)) [] shares_net_holds.tab6 shares_net_holds.bits6 (fun hHeld HT_ HW_=>?_)
      generalize wr.drew = p0 at b0 HB hHeld ⊢
      refine pq 1 44 2 HT_ ?_
      refine pq 2 45 6 HT_ ?_
      refine tq 0 43 7 HT_ HW_ hHeld ?_
      refine oq 3 46 15 HT_ (fun K hK=>?_)
      refine gq Try.func104 #[.agg #[.slice d0 b1.length b6,.slice b7 b2.length b8],.int .i64 b3,.int .i64 a2] ?_
      with_reducible refine (shares_net_has.calls k2 _ _ b1 _ _ b2 b3 a2 false _ ?side1 ?side2 ?side3 ?side4 m5.out).mono ?_
      (case side1=>exact cB d3 HB)
      (case side2=>exact d4.out)
      (case side3=>exact cB d5 HB)
      (case side4=>exact d6.out)
      rintro e p1 ⟨rfl,hb⟩
      refine ⟨_,rfl,?_⟩
      replace b0:=kB b0 hb
      replace HB:=bB HB hb
      (try clear hb)
      refine hz hK (fun hHeld=>?_)
      clear hK K
      refine nq 46 ?_
      refine pq 4 47 31 HT_ ?_
      refine pu 5 48 63 HT_ ?_
      refine pu 6 49 127 HT_ ?_
      refine pu 7 50 255 HT_ ?_
      refine pu 8 51 511 HT_ ?_
      refine pu 9 52 1023 HT_ ?_
      refine pu 10 53 2047 HT_ ?_
      refine pu 11 54 4095 HT_ ?_
      refine pu 12 55 8191 HT_ ?_
      refine pu 13 56 16383 HT_ ?_
      refine pu 14 57 32767 HT_ ?_
      refine pq 15 58 65535 HT_ ?_
      refine done_ (done_of HT_.out (by kernel_rfl)) ?_
      try go_wp2
      go_roundg k2
      case measure=>have:=j9.out;have:=m0.out;omega
      case rel=>exact ⟨(wrap64 (b3 + 1)),rfl,H',⟨by have:=j9.out;have:=m0.out;omega⟩,⟨by exact b0.out⟩,⟨bl HB⟩⟩
     subst m1
     rw [if_pos rfl] at H
     replace H:=Option.bind_eq_some_iff.mp H
     obtain ⟨⟨e5,e6⟩,A270,H⟩:=H
     dsimp only at H
     have n6:=A_ A270
     clear A270
     replace H:=Option.bind_eq_some_iff.mp H
     obtain ⟨⟨e7,e8⟩,A280,H⟩:=H
     dsimp only at H
     have n7:=A_ A280
     clear A280
     replace H:=Option.bind_eq_some_iff.mp H
     obtain ⟨e0,i9,H⟩:=H
     replace H:(if e0 > 0 then (some false) else (shares_net_holds.l0 k2 l1 a2 a3 (b2.length:Int) (wrap64 (b3 + 1)) b1 b2)) = some r:=H
     have n8:=A_ i9
     clear i9
     by_cases h8:e0 > 0
     ·rw [if_pos h8] at H
      have j5:=decide_eq_true h8
      clear h8
      obtain rfl:=Option.some.inj H
      try go_wp2
      replace b0:=kD b0
      replace HB:=bD HB
      refine st 16 (fun w'=>w'.cell? ⟨b5,0,none⟩ = some (.slice d0 b1.length b6) ∧ w'.cell? ⟨b5,1,none⟩ = some (.slice b7 b2.length b8)) [] shares_net_holds.tab6 shares_net_holds.bits6 (fun hHeld HT_ HW_=>?_)
      generalize wr.drew = p2 at b0 HB hHeld ⊢
      refine pq 1 44 2 HT_ ?_
      refine pq 2 45 6 HT_ ?_
      refine tq 0 43 7 HT_ HW_ hHeld ?_
      refine oq 3 46 15 HT_ (fun K hK=>?_)
      refine gq Try.func104 #[.agg #[.slice d0 b1.length b6,.slice b7 b2.length b8],.int .i64 b3,.int .i64 a2] ?_
      with_reducible refine (shares_net_has.calls k2 _ _ b1 _ _ b2 b3 a2 true _ ?side1 ?side2 ?side3 ?side4 m5.out).mono ?_
      (case side1=>exact cB d3 HB)
      (case side2=>exact d4.out)
      (case side3=>exact cB d5 HB)
      (case side4=>exact d6.out)
      rintro e p3 ⟨rfl,hb⟩
      refine ⟨_,rfl,?_⟩
      replace b0:=kB b0 hb
      replace HB:=bB HB hb
      (try clear hb)
      refine hz hK (fun hHeld=>?_)
      clear hK K
      refine nq 46 ?_
      refine pq 4 47 31 HT_ ?_
      refine pq 6 49 95 HT_ ?_
      refine pq 7 50 223 HT_ ?_
      refine pq 10 53 1247 HT_ ?_
      refine pq 11 54 3295 HT_ ?_
      refine tq 5 48 3327 HT_ HW_ hHeld ?_
      refine tq 9 52 3839 HT_ HW_ hHeld ?_
      refine oq 8 51 4095 HT_ (fun K hK=>?_)
      refine gq Try.func108 #[.agg #[.slice d0 b1.length b6,.slice b7 b2.length b8],.slice A1 l1.length c1,.int .i64 b3] ?_
      with_reducible refine (shares_net_level.calls k2 _ _ b1 _ _ b2 _ _ l1 b3 e5 e6 _ ?side1 ?side2 ?side3 ?side4 ?side5 ?side6 n6.out).mono ?_
      (case side1=>exact cB d3 HB)
      (case side2=>exact d4.out)
      (case side3=>exact cB d5 HB)
      (case side4=>exact d6.out)
      (case side5=>exact cB i0 HB)
      (case side6=>exact i1.out)
      rintro e p4 ⟨rfl,hb⟩
      refine ⟨_,rfl,?_⟩
      replace b0:=kB b0 hb
      replace HB:=bB HB hb
      (try clear hb)
      refine hz hK (fun hHeld=>?_)
      clear hK K
      refine nq 51 ?_
      refine oq 12 55 8191 HT_ (fun K hK=>?_)
      refine gq Try.func108 #[.agg #[.slice d0 b1.length b6,.slice b7 b2.length b8],.slice A1 l1.length c1,.int .i64 a3] ?_
      with_reducible refine (shares_net_level.calls k2 _ _ b1 _ _ b2 _ _ l1 a3 e7 e8 _ ?side1 ?side2 ?side3 ?side4 ?side5 ?side6 n7.out).mono ?_
      (case side1=>exact cB d3 HB)
      (case side2=>exact d4.out)
      (case side3=>exact cB d5 HB)
      (case side4=>exact d6.out)
      (case side5=>exact cB i0 HB)
      (case side6=>exact i1.out)
      rintro e p5 ⟨rfl,hb⟩
      refine ⟨_,rfl,?_⟩
      replace b0:=kB b0 hb
      replace HB:=bB HB hb
      (try clear hb)
      refine hz hK (fun hHeld=>?_)
      clear hK K
      refine nq 55 ?_
      refine oq 13 56 16383 HT_ (fun K hK=>?_)
      refine gq Try.func85 #[.agg #[.int .i64 e5,.int .i64 e6],.agg #[.int .i64 e7,.int .i64 e8]] ?_
      with_reducible refine (shares_compare.calls k2 e5 e6 e7 e8 e0 _ n8.out).mono ?_
      rintro e p6 ⟨rfl,hb⟩
      refine ⟨_,rfl,?_⟩
      replace b0:=kB b0 hb
      replace HB:=bB HB hb
      (try clear hb)
      refine hz hK (fun hHeld=>?_)
      clear hK K
      refine nq 56 ?_
      refine pq 14 57 32767 HT_ ?_
      refine pq 15 58 65535 HT_ ?_
      refine done_ (done_of HT_.out (by kernel_rfl)) ?_
      try go_wp2
      go_ret
      exact ⟨rfl,bl HB⟩
     rw [if_neg h8] at H
     have j5:=decide_eq_false h8
     clear h8
     have H':=A_ H
     clear H
     try go_wp2
     replace b0:=kD b0
     replace HB:=bD HB
     refine st 16 (fun w'=>w'.cell? ⟨b5,0,none⟩ = some (.slice d0 b1.length b6) ∧ w'.cell? ⟨b5,1,none⟩ = some (.slice b7 b2.length b8)) [] shares_net_holds.tab6 shares_net_holds.bits6 (fun hHeld HT_ HW_=>?_)
     generalize wr.drew = p7 at b0 HB hHeld ⊢
     refine pq 1 44 2 HT_ ?_
     refine pq 2 45 6 HT_ ?_
     refine tq 0 43 7 HT_ HW_ hHeld ?_
     refine oq 3 46 15 HT_ (fun K hK=>?_)
     refine gq Try.func104 #[.agg #[.slice d0 b1.length b6,.slice b7 b2.length b8],.int .i64 b3,.int .i64 a2] ?_
     with_reducible refine (shares_net_has.calls k2 _ _ b1 _ _ b2 b3 a2 true _ ?side1 ?side2 ?side3 ?side4 m5.out).mono ?_
     (case side1=>exact cB d3 HB)
     (case side2=>exact d4.out)
     (case side3=>exact cB d5 HB)
     (case side4=>exact d6.out)
     rintro e p8 ⟨rfl,hb⟩
     refine ⟨_,rfl,?_⟩
     replace b0:=kB b0 hb
     replace HB:=bB HB hb
     (try clear hb)
     refine hz hK (fun hHeld=>?_)
     clear hK K
     refine nq 46 ?_
     refine pq 4 47 31 HT_ ?_
     refine pq 6 49 95 HT_ ?_
     refine pq 7 50 223 HT_ ?_
     refine pq 10 53 1247 HT_ ?_
     refine pq 11 54 3295 HT_ ?_
     refine tq 5 48 3327 HT_ HW_ hHeld ?_
     refine tq 9 52 3839 HT_ HW_ hHeld ?_
     refine oq 8 51 4095 HT_ (fun K hK=>?_)
     refine gq Try.func108 #[.agg #[.slice d0 b1.length b6,.slice b7 b2.length b8],.slice A1 l1.length c1,.int .i64 b3] ?_
     with_reducible refine (shares_net_level.calls k2 _ _ b1 _ _ b2 _ _ l1 b3 e5 e6 _ ?side1 ?side2 ?side3 ?side4 ?side5 ?side6 n6.out).mono ?_
     (case side1=>exact cB d3 HB)
     (case side2=>exact d4.out)
     (case side3=>exact cB d5 HB)
     (case side4=>exact d6.out)
     (case side5=>exact cB i0 HB)
     (case side6=>exact i1.out)
     rintro e p9 ⟨rfl,hb⟩
     refine ⟨_,rfl,?_⟩
     replace b0:=kB b0 hb
     replace HB:=bB HB hb
     (try clear hb)
     refine hz hK (fun hHeld=>?_)
     clear hK K
     refine nq 51 ?_
     refine oq 12 55 8191 HT_ (fun K hK=>?_)
     refine gq Try.func108 #[.agg #[.slice d0 b1.length b6,.slice b7 b2.length b8],.slice A1 l1.length c1,.int .i64 a3] ?_
     with_reducible refine (shares_net_level.calls k2 _ _ b1 _ _ b2 _ _ l1 a3 e7 e8 _ ?side1 ?side2 ?side3 ?side4 ?side5 ?side6 n7.out).mono ?_
     (case side1=>exact cB d3 HB)
     (case side2=>exact d4.out)
     (case side3=>exact cB d5 HB)
     (case side4=>exact d6.out)
     (case side5=>exact cB i0 HB)
     (case side6=>exact i1.out)
     rintro e q0 ⟨rfl,hb⟩
     refine ⟨_,rfl,?_⟩
     replace b0:=kB b0 hb
     replace HB:=bB HB hb
     (try clear hb)
     refine hz hK (fun hHeld=>?_)
     clear hK K
     refine nq 55 ?_
     refine oq 13 56 16383 HT_ (fun K hK=>?_)
     refine gq Try.func85 #[.agg #[.int .i64 e5,.int .i64 e6],.agg #[.int .i64 e7,.int .i64 e8]] ?_
     with_reducible refine (shares_compare.calls k2 e5 e6 e7 e8 e0 _ n8.out).mono ?_
     rintro e q1 ⟨rfl,hb⟩
     refine ⟨_,rfl,?_⟩
     replace b0:=kB b0 hb
     replace HB:=bB HB hb
     (try clear hb)
     refine hz hK (fun hHeld=>?_)
     clear hK K
     refine nq 56 ?_
     refine pq 14 57 32767 HT_ ?_
     refine pq 15 58 65535 HT_ ?_
     refine done_ (done_of HT_.out (by kernel_rfl)) ?_
     try go_wp2
     go_roundg k2
     case measure=>have:=j9.out;have:=m0.out;omega
     case rel=>exact ⟨(wrap64 (b3 + 1)),rfl,H',⟨by have:=j9.out;have:=m0.out;omega⟩,⟨by exact b0.out⟩,⟨bl HB⟩⟩
end Go.Proofs.Ytjohcjfmlhihbaa.G
namespace Go.Proofs.Ytjohcjfmlhihbaa.G
open Go.RowKit Go.Proofs.YtjohcjfmlhihbaaW.PrintWords Go.Proofs.YtjohcjfmlhihbaaW.PrintLast Go.Proofs.YtjohcjfmlhihbaaW.PrintMore
set_option maxHeartbeats 8000000
set_option maxRecDepth 100000
attribute [local go_sem] cond_true cond_false fld23_0 fld23_1 fld45_0 fld45_1 fld109_0 fld109_1 fld94_0 fld94_1 max2_int min2_int max_two min_two max_three min_three max_four min_four
attribute [local go_sem high] eqA23
def shares_net_held.l0:Nat → List (S23) → Int → Int → Int → List Int → List (S45) → Option (Int)
 | 0,_,_,_,_,_,_=>none
 | k + 1,x1,x2,h5,e0,b9,c0=>if e0 < h5 then ((shares_net_holds.f k b9 c0 x1 e0 x2).bind fun d0=>(if d0 = true then (some e0) else (shares_net_held.l0 k x1 x2 h5 (wrap64 (e0 + 1)) b9 c0))) else (some (-1))
def shares_net_held.f (k:Nat) (b1:List Int) (b2:List (S45)) (l1:List (S23)) (a2:Int):Option (Int):=shares_net_held.l0 k l1 a2 (b1.length:Int) 0 b1 b2
theorem shares_net_held.mono_l:∀ k,(∀ y0 y1 y2 y3 y4 y5,LeO (shares_net_held.l0 k y0 y1 y2 y3 y4 y5) (shares_net_held.l0 (k + 1) y0 y1 y2 y3 y4 y5))
 | 0=>fun _ _ _ _ _ _ r h=>by simp [shares_net_held.l0] at h
 | k + 1=>by
  have e5:=shares_net_held.mono_l k
  intro y0 y1 y2 y3 y4 y5
  unfold shares_net_held.l0
  repeat' first
  | (with_reducible first | exact e5 _ _ _ _ _ _ | exact shares_net_holds.mono _ _ _ _ _ _ | exact LeO.refl _ | exact LeO.none _ | refine LeO.ite ?_ ?_ | refine LeO.bind ?_ (fun _=>?_))
  | exact LeO.none _ | refine LeO.ite ?_ ?_ | refine LeO.bind ?_ (fun _=>?_)
theorem shares_net_held.mono:∀ a0 a1 a2 a3 k,LeO (shares_net_held.f k a0 a1 a2 a3) (shares_net_held.f (k + 1) a0 a1 a2 a3):=by
 intro a0 a1 a2 a3 k
 have e5:=shares_net_held.mono_l k
 unfold shares_net_held.f
 repeat' first
   | (with_reducible first | exact e5 _ _ _ _ _ _ | exact shares_net_holds.mono _ _ _ _ _ _ | exact LeO.refl _ | exact LeO.none _ | refine LeO.ite ?_ ?_ | refine LeO.bind ?_ (fun _=>?_))
   | exact LeO.none _ | refine LeO.ite ?_ ?_ | refine LeO.bind ?_ (fun _=>?_)
theorem shares_net_held.calls (k:Nat) (b5:Option Addr) (b6:Nat) (b1:List Int) (b7:Option Addr) (b8:Nat) (b2:List (S45)) (A1:Option Addr) (c1:Nat) (l1:List (S23)) (a2:Int) (r:Int) (w:World) (d1:Kd.C (Kd.int .i64) w b5 b1.length b1) (d2:b1.length ≤ b6) (d3:Kd.C k45 w b7 b2.length b2) (d4:b2.length ≤ b8) (h6:Kd.C k23 w A1 l1.length l1) (h7:l1.length ≤ c1) (h:shares_net_held.f k b1 b2 l1 a2 = some r) :
  Calls Try.prog 72 #[.agg #[.slice b5 b1.length b6,.slice b7 b2.length b8],.slice A1 l1.length c1,.int .i64 a2] w fun e w'=>e = .returned (.int .i64 r) ∧ Below w.heap.size w w':=by
 have h8:=Try.underlying109
 have d5:=A_ d1
 have d6:=A_ d2
 clear d1 d2
 have d7:=A_ d3
 have d8:=A_ d4
 clear d3 d4
 have h9:=A_ h6
 have i0:=A_ h7
 clear h6 h7
 have HB:=A_ (Below.refl w.heap.size w)
 have H:(shares_net_held.l0 k l1 a2 (b1.length:Int) 0 b1 b2) = some r:=h
 clear h
 have H':=A_ H
 clear H
 go_enter Try.func72,Try.ntmps72
 go_wp2_with (first | ((with_reducible refine gate_dst (N:=3) rfl ?_);refine bx 3 #[.slice b5 b1.length b6,.slice b7 b2.length b8] 109 ?_;intro b4 hg w4 hbox hb;have b0:=A_ hbox;have d9:=gw hg HB;have i1:=d9;replace HB:=bB HB hb;clear hb hbox hg;have e6:w4.cell? ⟨b4,0,none⟩ = some (.slice b5 b1.length b6):=cz b0 0;have e7:w4.cell? ⟨b4,1,none⟩ = some (.slice b7 b2.length b8):=cz b0 1;have e8:=blk_frozen b0.out 0;have e9:=blk_frozen b0.out 1))
 go_loopg [11] k (fun kq i4 w'=>∃ (b3:Int),i4 = .int .i64 b3 ∧ Aside0 (shares_net_held.l0 kq l1 a2 (b1.length:Int) b3 b1 b2 = some r) ∧ Aside0 (kq ≤ k) ∧ Aside0 (w'.heap[b4]? = some (.cells #[(.slice b5 b1.length b6),(.slice b7 b2.length b8)] 109 (0,0))) ∧ Aside0 (Below w.heap.size w w'))
 case atStart=>exact ⟨(0),rfl,H',⟨Nat.le_refl _⟩,⟨by (with_reducible repeat (first | refine blk_drewN ?_ _ | refine blk_drew ?_ | refine blk_alloc ?_ _));exact b0.out⟩,⟨bl HB⟩⟩
 case round =>
  clear H'
  obtain ⟨b3,rfl,HA,i2,b0,HB⟩:=hrel
  cases gk with
  | zero=>exact absurd HA.out (by simp [shares_net_held.l0])
  | succ k1 =>
   have H:=HA.out
   clear HA
   simp only [shares_net_held.l0] at H
   by_cases c6:b3 < (b1.length:Int)
   case neg =>
    rw [if_neg c6] at H
    have h0:=decide_eq_false c6
    clear c6
    obtain rfl:=Option.some.inj H
    go_wp2
    go_ret
    exact ⟨rfl,bl HB⟩
   rw [if_pos c6] at H
   have h0:=decide_eq_true c6
   clear c6
   replace H:=Option.bind_eq_some_iff.mp H
   obtain ⟨d0,i3,H⟩:=H
   replace H:(if d0 = true then (some b3) else (shares_net_held.l0 k1 l1 a2 (b1.length:Int) (wrap64 (b3 + 1)) b1 b2)) = some r:=H
   have A7:=A_ i3
   clear i3
   by_cases c8:d0 = true
   ·subst c8
    rw [if_pos rfl] at H
    obtain rfl:=Option.some.inj H
    have h1:wr.cell? ⟨b4,0,none⟩ = some (.slice b5 b1.length b6):=cz b0 0
    have h2:wr.cell? ⟨b4,1,none⟩ = some (.slice b7 b2.length b8):=cz b0 1
    have h3:=blk_frozen b0.out 0
    have h4:=blk_frozen b0.out 1
    go_wp2_with (first | ((with_reducible refine gate_callee (f:=76) rfl ?_);refine gL (some 18) Try.func76 #[.agg #[.slice b5 b1.length b6,.slice b7 b2.length b8],.slice A1 l1.length c1,.int .i64 b3,.int .i64 a2] ?_;(with_reducible refine (shares_net_holds.calls k1 _ _ b1 _ _ b2 _ _ l1 b3 a2 true _ ?side1 ?side2 ?side3 ?side4 ?side5 ?side6 A7.out).mono ?_);(case side1=>exact cB d5 HB);(case side2=>exact d6.out);(case side3=>exact cB d7 HB);(case side4=>exact d8.out);(case side5=>exact cB h9 HB);(case side6=>exact i0.out);rintro e i5 ⟨rfl,hb⟩;refine ⟨_,rfl,?_⟩;replace b0:=kB b0 hb;replace HB:=bB HB hb;(try clear hb)))
    go_ret
    exact ⟨rfl,bl HB⟩
   replace c8:=Bool.eq_false_iff.mpr c8
   subst c8
   rw [if_neg (show ¬ (false = true) by decide)] at H
   have H':=A_ H
   clear H
   have e1:wr.cell? ⟨b4,0,none⟩ = some (.slice b5 b1.length b6):=cz b0 0
   have e2:wr.cell? ⟨b4,1,none⟩ = some (.slice b7 b2.length b8):=cz b0 1
   have e3:=blk_frozen b0.out 0
   have e4:=blk_frozen b0.out 1
   go_wp2_with (first | ((with_reducible refine gate_callee (f:=76) rfl ?_);refine gL (some 18) Try.func76 #[.agg #[.slice b5 b1.length b6,.slice b7 b2.length b8],.slice A1 l1.length c1,.int .i64 b3,.int .i64 a2] ?_;(with_reducible refine (shares_net_holds.calls k1 _ _ b1 _ _ b2 _ _ l1 b3 a2 false _ ?side1 ?side2 ?side3 ?side4 ?side5 ?side6 A7.out).mono ?_);(case side1=>exact cB d5 HB);(case side2=>exact d6.out);(case side3=>exact cB d7 HB);(case side4=>exact d8.out);(case side5=>exact cB h9 HB);(case side6=>exact i0.out);rintro e i6 ⟨rfl,hb⟩;refine ⟨_,rfl,?_⟩;replace b0:=kB b0 hb;replace HB:=bB HB hb;(try clear hb)))
   go_roundg k1
   case measure=>have:=i2.out;omega
   case rel=>exact ⟨(wrap64 (b3 + 1)),rfl,H',⟨by have:=i2.out;omega⟩,⟨by (with_reducible repeat (first | refine blk_drewN ?_ _ | refine blk_drew ?_ | refine blk_alloc ?_ _));exact b0.out⟩,⟨bl HB⟩⟩
end Go.Proofs.Ytjohcjfmlhihbaa.G
set_option linter.unusedSectionVars false
namespace Go.Proofs.Ytjohcjfmlhihbaa.P
open Go Go.RowKit Go.Proofs.Ytjohcjfmlhihbaa.G
open Go.Proofs.YtjohcjfmlhihbaaW.PrintWords Go.Proofs.YtjohcjfmlhihbaaW.PrintMore
theorem S_succ (m:Nat) (f:Nat → Rat):S (m + 1) f = S m f + f m:=by
 unfold S
 rw [List.range_succ,List.map_append,tot_append,List.map_cons,List.map_nil,tot_cons,tot_nil,Rat.add_zero]
theorem S_nil (f:Nat → Rat):S 0 f = 0:=rfl
structure IsN (p:List Int) (u:List S45):Prop where
 p1:1 ≤ p.length
 p5:p.length ≤ 5
 u1:1 ≤ u.length
 u6:u.length ≤ 6
 cap:∀ i (h:i < p.length),0 ≤ p[i] ∧ p[i] ≤ 200
 wt:∀ i (h:i < u.length),1 ≤ u[i].f0 ∧ u[i].f0 ≤ 4
 len:∀ i (h:i < u.length),1 ≤ u[i].f1.length ∧ u[i].f1.length ≤ 5
 pipe:∀ i (h:i < u.length),∀ q ∈ u[i].f1,0 ≤ q ∧ q < (p.length:Int)
theorem isN {p:List Int} {u:List S45} (h:okNet p u = true):IsN p u:=by
 simp only [okNet,Bool.and_eq_true,decide_eq_true_eq,List.all_eq_true,allF_iff] at h
 obtain ⟨⟨⟨⟨⟨h1,h2⟩,h3⟩,h4⟩,h5⟩,h6⟩:=h
 have h7:∀ i (h:i < u.length),okU p.length u[i] = true:=fun i hi=>by
  have:=h6 i (by omega) (by omega)
  rwa [rdT45 hi] at this
 refine ⟨h1,h2,h3,h4,fun i hi=>h5 _ (List.getElem_mem hi),fun i hi=>?_,fun i hi=>?_,fun i hi q hq=>?_⟩
 ·have:=h7 i hi
  simp only [okU,Bool.and_eq_true,decide_eq_true_eq] at this
  omega
 ·have:=h7 i hi
  simp only [okU,Bool.and_eq_true,decide_eq_true_eq] at this
  have h8:=okAt_len this.2
  omega
 ·have:=h7 i hi
  simp only [okU,Bool.and_eq_true,decide_eq_true_eq,allF_iff] at this
  obtain ⟨j,hj,rfl⟩:=List.getElem_of_mem hq
  have h8:=this.2 j (by omega) (by omega)
  simp only [okAt,Bool.and_eq_true,decide_eq_true_eq,rd_get hj] at h8
  exact h8.1
def netOf (p:List Int) (u:List S45):Net where
 n:=p.length
 m:=u.length
 cap:=fun q=>(rd p (q:Int):Rat)
 has:=fun v q=>decide ((q:Int) ∈ (rd_T45 u (v:Int)).f1)
 w:=fun v=>((rd_T45 u (v:Int)).f0:Rat)
def rt (x:List Rat) (v:Nat):Rat:=x.getD v 0
theorem rt_get {x:List Rat} {v:Nat} (h:v < x.length):rt x v = x[v]:=by unfold rt;simp [h]
theorem encT {x:List Rat} {v:Nat} (h:v < x.length):rd_T23 (encL x) (v:Int) = encQ (rt x v):=by
 unfold rd_T23 encL rt
 simp [h]
def part (N:Net) (r:Nat → Rat) (q i:Nat):Rat:=S i (fun v=>if N.has v q then r v else 0)
theorem part_succ (N:Net) (r:Nat → Rat) (q i:Nat):part N r q (i + 1) = if N.has i q then part N r q i + r i else part N r q i:=by
 unfold part
 rw [S_succ]
 split
 ·rfl
 ·rw [Rat.add_zero]
structure OkR (p:List Int) (u:List S45) (x:List Rat):Prop where
 len:x.length = u.length
 fits:∀ q i,i < u.length → Fits (part (netOf p u) (rt x) q i) (rt x i)
 lev:∀ i j,i < u.length → j < u.length → Fits (rt x i / (netOf p u).w i) (rt x j / (netOf p u).w j)
 num:∀ i,i < u.length → (rt x i).num.natAbs < 9223372036854775808
 den:∀ i,i < u.length → (rt x i).den * 4 < 9223372036854775808
def holdsB (N:Net) (r:Nat → Rat) (q i:Nat):Bool:=decide (q < N.n) && N.has i q && decide (N.load r q = N.cap q) && allF (fun v=>!N.has v q || decide (r v / N.w v ≤ r i / N.w i)) N.m 0
theorem holdsB_iff (N:Net) (r:Nat → Rat) (q i:Nat):holdsB N r q i = true ↔ N.Holds r q i:=by
 unfold holdsB Net.Holds
 simp only [Bool.and_eq_true,decide_eq_true_eq,allF_iff,Bool.or_eq_true,Bool.not_eq_true']
 constructor
 ·rintro ⟨⟨⟨h1,h2⟩,h3⟩,h4⟩
  refine ⟨h1,h2,h3,fun v hv hh=>?_⟩
  rcases h4 v (by omega) (by omega) with h | h
  ·rw [hh] at h;cases h
  ·exact h
 ·rintro ⟨h1,h2,h3,h4⟩
  refine ⟨⟨⟨h1,h2⟩,h3⟩,fun v _ hv=>?_⟩
  by_cases hh:N.has v q = true
  ·exact .inr (h4 v (by omega) hh)
  ·exact .inl (by simpa using hh)
def firstI (P:Nat → Bool):Nat → Nat → Int
 | 0,_=>-1
 | d + 1,i=>if P i = true then (i:Int) else firstI P d (i + 1)
theorem num_eq_iff (a b:Rat):(!(a.num == b.num) || (!((a.den:Int) == (b.den:Int)))) = !decide (a = b):=by
 by_cases h:a = b
 ·subst h;simp
 ·rw [decide_eq_false h]
  by_cases h1:a.num = b.num
  ·have h2:a.den ≠ b.den:=fun e=>h (Rat.ext h1 e)
   have h3:((a.den:Int) == (b.den:Int)) = false:=by rw [beq_eq_false_iff_ne];omega
   rw [h3];simp
  ·have h3:(a.num == b.num) = false:=by simpa using h1
   rw [h3];rfl
section
variable {p:List Int} {u:List S45} (hN:IsN p u) {x:List Rat} (hx:OkR p u x)
include hN
theorem has_eq {v:Nat} (hv:v < u.length) (q:Nat):(netOf p u).has v q = decide ((q:Int) ∈ u[v].f1):=by
 show decide ((q:Int) ∈ (rd_T45 u (v:Int)).f1) = _
 rw [rdT45 hv]
theorem ev_hasN {v:Nat} (hv:v < u.length) (q:Nat):Ev (fun k=>shares_net_has.f k p u (v:Int) (q:Int)) ((netOf p u).has v q):=by
 rw [has_eq hN hv]
 exact ev_has hv (by have:=hN.len v hv;omega) (q:Int)
include hx
theorem load_l0 (q:Nat):∀ d i,i + d = u.length → Ev (fun k=>shares_net_load.l0 k (encL x) (q:Int) (u.length:Int) (i:Int) p u (part (netOf p u) (rt x) q i).num ((part (netOf p u) (rt x) q i).den:Int)) (((netOf p u).load (rt x) q).num,(((netOf p u).load (rt x) q).den:Int)):=by
 intro d
 have hl:=hx.len
 have hu6:=hN.u6
 induction d with
 | zero =>
  intro i hi
  obtain rfl:i = u.length:=by omega
  refine Ev.step (f:=fun _=>some (((netOf p u).load (rt x) q).num,(((netOf p u).load (rt x) q).den:Int))) (fun k=>?_) (Ev.now _)
  rw [shares_net_load.l0,if_neg (by omega)];rfl
 | succ d ih =>
  intro i hi
  have hil:i < u.length:=by omega
  have hn:=ih (i + 1) (by omega)
  rw [part_succ] at hn
  refine Ev.step (fun k=>?_) (f:=fun k=>(shares_net_has.f k p u (i:Int) (q:Int)).bind fun t=>if t = true then (shares_add.f k (part (netOf p u) (rt x) q i).num ((part (netOf p u) (rt x) q i).den:Int) (rt x i).num ((rt x i).den:Int)).bind fun bt=>shares_net_load.l0 k (encL x) (q:Int) (u.length:Int) ((i + 1:Nat):Int) p u bt.1 bt.2 else shares_net_load.l0 k (encL x) (q:Int) (u.length:Int) ((i + 1:Nat):Int) p u (part (netOf p u) (rt x) q i).num ((part (netOf p u) (rt x) q i).den:Int)) (Ev.bind (ev_hasN hN hil q) ?_)
  ·rw [shares_net_load.l0,if_pos (by omega),if_pos (by omega),if_pos (by rw [encL_length];omega),encT (by omega),wrap_succ (by omega)];rfl
  ·by_cases hh:(netOf p u).has i q = true
   ·rw [if_pos hh] at hn
    refine Ev.congr (fun k=>if_pos hh) (Ev.bind (ev_add (hx.fits q i hil)) hn)
   ·rw [if_neg hh] at hn
    exact Ev.congr (fun k=>if_neg hh) hn
theorem ev_load (q:Nat):Ev (fun k=>shares_net_load.f k p u (encL x) (q:Int)) (((netOf p u).load (rt x) q).num,(((netOf p u).load (rt x) q).den:Int)):=by
 unfold shares_net_load.f shares_whole.f
 simp only [Option.bind_some]
 exact load_l0 hN hx q u.length 0 (by omega)
theorem wt_nat {i:Nat} (hi:i < u.length):∃ n:Nat,0 < n ∧ n ≤ 4 ∧ u[i].f0 = (n:Int) ∧ (netOf p u).w i = (n:Rat):=by
 have:=hN.wt i hi
 refine ⟨u[i].f0.toNat,by omega,by omega,by omega,?_⟩
 show ((rd_T45 u (i:Int)).f0:Rat) = _
 rw [rdT45 hi]
 have e:u[i].f0 = ((u[i].f0.toNat:Nat):Int):=by omega
 rw [e]
 exact Rat.intCast_natCast _
theorem ev_level {i:Nat} (hi:i < u.length):Ev (fun k=>shares_net_level.f k p u (encL x) (i:Int)) ((rt x i / (netOf p u).w i).num,((rt x i / (netOf p u).w i).den:Int)):=by
 obtain ⟨n,n0,n4,e1,e2⟩:=wt_nat hN hx hi
 have hl:=hx.len
 have hd:=hx.den i hi
 unfold shares_net_level.f
 rw [encT (by omega),rdT45 hi,e1,e2]
 refine Ev.congr (fun k=>if_pos (by omega)) (Ev.congr (fun k=>if_pos (by rw [encL_length];omega)) (Ev.congr (fun k=>if_pos (by omega)) ?_))
 refine Ev.bind (ev_over (rt x i) n0 (hx.num i hi) ?_) (Ev.now _)
 have:(rt x i).den * n ≤ (rt x i).den * 4:=Nat.mul_le_mul_left _ n4
 omega
theorem holds_l0 (q:Nat) {i:Nat} (hi:i < u.length):∀ d v,v + d = u.length → Ev (fun k=>shares_net_holds.l0 k (encL x) (q:Int) (i:Int) (u.length:Int) (v:Int) p u) (allF (fun v=>!(netOf p u).has v q || decide (rt x v / (netOf p u).w v ≤ rt x i / (netOf p u).w i)) d v):=by
 intro d
 have hu6:=hN.u6
 induction d with
 | zero =>
  intro v hv
  refine Ev.step (f:=fun _=>some true) (fun k=>?_) (Ev.now _)
  rw [shares_net_holds.l0,if_neg (by omega)]
 | succ d ih =>
  intro v hv
  have hvl:v < u.length:=by omega
  rw [allF]
  refine Ev.step (fun k=>by rw [shares_net_holds.l0,if_pos (by omega),wrap_succ (by omega)]) (Ev.bind (ev_hasN hN hvl q) ?_)
  by_cases hh:(netOf p u).has v q = true
  ·rw [hh]
   refine Ev.congr (fun k=>if_pos rfl) (Ev.bind (ev_level hN hx hvl) (Ev.bind (ev_level hN hx hi) (Ev.bind (ev_compare (hx.lev v i hvl hi)) ?_)))
   by_cases hc:rt x v / (netOf p u).w v ≤ rt x i / (netOf p u).w i
   ·rw [decide_eq_true hc]
    exact Ev.congr (fun k=>if_neg (by rw [cmpR_gt];exact Rat.not_lt.2 hc)) (ih (v + 1) (by omega))
   ·rw [decide_eq_false hc]
    exact Ev.congr (fun k=>if_pos ((cmpR_gt _ _).2 (Rat.not_le.1 hc))) (Ev.now _)
  ·have hh':(netOf p u).has v q = false:=by simpa using hh
   rw [hh']
   exact Ev.congr (fun k=>if_neg (by decide)) (ih (v + 1) (by omega))
theorem ev_holds (q:Int) {i:Nat} (hi:i < u.length):Ev (fun k=>shares_net_holds.f k p u (encL x) q (i:Int)) (decide (0 ≤ q) && holdsB (netOf p u) (rt x) q.toNat i):=by
 have hp5:=hN.p5
 unfold shares_net_holds.f
 rw [within_eq,wrap_id (by omega) (by omega)]
 simp only [Option.bind_some]
 have no:Ev (fun k=>shares_net_holds.j0 k (encL x) q (i:Int) true p u) false:=by
  refine Ev.step (f:=fun _=>some false) (fun k=>?_) (Ev.now _)
  rw [shares_net_holds.j0];rfl
 by_cases h1:0 ≤ q ∧ q ≤ (p.length:Int) - 1
 ·obtain ⟨n,rfl⟩:=Int.eq_ofNat_of_zero_le h1.1
  have hn:n < p.length:=by omega
  rw [decide_eq_true h1,decide_eq_true h1.1,Int.toNat_natCast,Bool.true_and,holdsB,decide_eq_true (show n < (netOf p u).n from hn),Bool.true_and]
  refine Ev.congr (fun k=>if_pos rfl) (Ev.bind (ev_hasN hN hi n) ?_)
  by_cases hh:(netOf p u).has i n = true
  ·rw [hh,Bool.true_and]
   refine Ev.congr (fun k=>if_pos rfl) (Ev.bind (ev_load hN hx n) ?_)
   unfold shares_whole.f
   refine Ev.congr (fun k=>if_pos (by omega)) (Ev.congr (fun k=>if_pos (by omega)) ?_)
   simp only [Option.bind_some]
   have e:=num_eq_iff ((netOf p u).load (rt x) n) ((netOf p u).cap n)
   rw [show (netOf p u).cap n = ((rd p (n:Int):Int):Rat) from rfl,whole_num,whole_den] at e
   rw [show (((1:Nat):Int)) = 1 from rfl] at e
   rw [e]
   show Ev _ (decide ((netOf p u).load (rt x) n = (netOf p u).cap n) && _)
   rw [show ((rd p (n:Int):Int):Rat) = (netOf p u).cap n from rfl]
   by_cases hc:(netOf p u).load (rt x) n = (netOf p u).cap n
   ·rw [decide_eq_true hc,Bool.true_and]
    refine Ev.step (fun k=>?_) (holds_l0 hN hx n hi u.length 0 (by omega))
    rw [shares_net_holds.j0];rfl
   ·rw [decide_eq_false hc]
    exact no
  ·have hh':(netOf p u).has i n = false:=by simpa using hh
   rw [hh',Bool.false_and,Bool.false_and]
   exact Ev.congr (fun k=>if_neg (by decide)) no
 ·have e:(decide (0 ≤ q) && holdsB (netOf p u) (rt x) q.toNat i) = false:=by
   rw [← Bool.not_eq_true]
   intro h
   rw [Bool.and_eq_true,holdsB_iff,decide_eq_true_eq] at h
   have h2:q.toNat < p.length:=h.2.1
   omega
  rw [e,decide_eq_false h1]
  exact Ev.congr (fun k=>if_neg (by decide)) no
theorem held_l0 {i:Nat} (hi:i < u.length):∀ d q,q + d = p.length → Ev (fun k=>shares_net_held.l0 k (encL x) (i:Int) (p.length:Int) (q:Int) p u) (firstI (fun q=>holdsB (netOf p u) (rt x) q i) d q):=by
 intro d
 have hp5:=hN.p5
 induction d with
 | zero =>
  intro q hq
  refine Ev.step (f:=fun _=>some (-1)) (fun k=>?_) (Ev.now _)
  rw [shares_net_held.l0,if_neg (by omega)]
 | succ d ih =>
  intro q hq
  have h:=ev_holds hN hx (q:Int) hi
  rw [decide_eq_true (by omega:0 ≤ (q:Int)),Bool.true_and,Int.toNat_natCast] at h
  rw [firstI]
  refine Ev.step (fun k=>by rw [shares_net_held.l0,if_pos (by omega),wrap_succ (by omega)]) (Ev.bind h ?_)
  by_cases hh:holdsB (netOf p u) (rt x) q i = true
  ·rw [if_pos hh,hh]
   exact Ev.congr (fun k=>if_pos rfl) (Ev.now _)
  ·rw [if_neg hh]
   exact Ev.congr (fun k=>if_neg hh) (ih (q + 1) (by omega))
theorem ev_held {i:Nat} (hi:i < u.length):Ev (fun k=>shares_net_held.f k p u (encL x) (i:Int)) (firstI (fun q=>holdsB (netOf p u) (rt x) q i) p.length 0):=held_l0 hN hx hi p.length 0 (by omega)
end
end Go.Proofs.Ytjohcjfmlhihbaa.P
set_option linter.unusedSectionVars false
namespace Go.Proofs.Ytjohcjfmlhihbaa.P
open Go Go.RowKit Go.Proofs.Ytjohcjfmlhihbaa.G
open Go.Proofs.YtjohcjfmlhihbaaW.PrintWords Go.Proofs.YtjohcjfmlhihbaaW.PrintMore
def tab {α:Type} (m:Nat) (f:Nat → α):List α:=(List.range m).map f
theorem tab_length {α:Type} (m:Nat) (f:Nat → α):(tab m f).length = m:=by unfold tab;rw [List.length_map,List.length_range]
theorem tab_get {α:Type} {m:Nat} {f:Nat → α} {i:Nat} (h:i < (tab m f).length):(tab m f)[i] = f i:=by simp [tab]
theorem tab_b {m:Nat} {f:Nat → Bool} {i:Nat} (h:i < m):rdOf false (tab m f) (i:Int) = f i:=by
 have h':i < (tab m f).length:=by rw [tab_length];exact h
 unfold rdOf
 rw [Int.toNat_natCast,List.getD_eq_getElem?_getD,List.getElem?_eq_getElem h',Option.getD_some,tab_get]
theorem tab_T {m:Nat} {f:Nat → S23} {i:Nat} (h:i < m):rd_T23 (tab m f) (i:Int) = f i:=by
 rw [rdT (by rw [tab_length];exact h),tab_get]
theorem tab_congr {α:Type} {m:Nat} {f g:Nat → α} (h:∀ v,v < m → f v = g v):tab m f = tab m g:=List.map_congr_left fun v hv=>h v (List.mem_range.1 hv)
theorem tab_set {α:Type} {m:Nat} {f:Nat → α} {i:Nat} (y:α):(tab m f).set i y = tab m (fun v=>if v = i then y else f v):=by
 apply List.ext_getElem
 ·rw [List.length_set,tab_length,tab_length]
 ·intro v h1 h2
  rw [List.getElem_set,tab_get,tab_get]
  by_cases e:i = v
  ·rw [if_pos e,if_pos e.symm]
  ·rw [if_neg e,if_neg (fun h=>e h.symm)]
theorem tab_rep {α:Type} (m:Nat) (y:α):List.replicate m y = tab m (fun _=>y):=by
 apply List.ext_getElem
 ·rw [List.length_replicate,tab_length]
 ·intro v h1 h2
  rw [List.getElem_replicate,tab_get]
theorem encL_tab (m:Nat) (r:Nat → Rat):encL (tab m r) = tab m (fun v=>encQ (r v)):=by unfold encL tab;rw [List.map_map];rfl
theorem rt_tab {m:Nat} {r:Nat → Rat} {v:Nat} (h:v < m):rt (tab m r) v = r v:=by rw [rt_get (by rw [tab_length];exact h),tab_get]
def rts (m:Nat) (z:S23) (fix:Nat → Bool) (r:Nat → Rat):List S23:=tab m (fun v=>if fix v = true then encQ (r v) else z)
def lf (N:Net) (fix:Nat → Bool) (r:Nat → Rat) (q i:Nat):Rat:=N.cap q - S i (fun v=>if N.has v q && fix v then r v else 0)
def wN (N:Net) (u:List S45) (fix:Nat → Bool) (q:Nat):Nat → Nat
 | 0=>0
 | i + 1=>if N.has i q && !fix i then wN N u fix q i + (rd_T45 u (i:Int)).f0.toNat else wN N u fix q i
theorem lf_succ (N:Net) (fix:Nat → Bool) (r:Nat → Rat) (q i:Nat):lf N fix r q (i + 1) = if N.has i q && fix i then lf N fix r q i - r i else lf N fix r q i:=by
 unfold lf
 rw [S_succ]
 split <;> grind
def cnt (m:Nat) (fix:Nat → Bool):Nat:=(List.range m).countP (fun v=>!fix v)
theorem cnt_succ (m:Nat) (fix:Nat → Bool):cnt (m + 1) fix = cnt m fix + if fix m = true then 0 else 1:=by
 unfold cnt
 rw [List.range_succ,List.countP_append,List.countP_cons,List.countP_nil]
 cases fix m <;> simp
theorem cnt_le:∀ (m:Nat) (fix fix2:Nat → Bool),(∀ v,v < m → fix v = true → fix2 v = true) → cnt m fix2 ≤ cnt m fix
 | 0,_,_,_=>Nat.le_refl _
 | m + 1,fix,fix2,h=>by
  have h1:=cnt_le m fix fix2 fun v hv=>h v (by omega)
  have h2:=h m (by omega)
  rw [cnt_succ,cnt_succ]
  cases e:fix m
  ·simp;split <;> omega
  ·rw [h2 e];simp;exact h1
theorem cnt_lt:∀ (m:Nat) (fix fix2:Nat → Bool),(∀ v,v < m → fix v = true → fix2 v = true) → (∃ v,v < m ∧ fix v = false ∧ fix2 v = true) → cnt m fix2 < cnt m fix
 | 0,_,_,_,⟨v,hv,_⟩=>by omega
 | m + 1,fix,fix2,h,⟨v,hv,h1,h2⟩=>by
  rw [cnt_succ,cnt_succ]
  by_cases e:v = m
  ·subst e
   have:=cnt_le v fix fix2 fun w hw=>h w (by omega)
   rw [h1,h2];simp;omega
  ·have h3:=cnt_lt m fix fix2 (fun w hw=>h w (by omega)) ⟨v,by omega,h1,h2⟩
   have h4:=h m (by omega)
   cases e2:fix m
   ·simp;split <;> omega
   ·rw [h4 e2];simp;omega
theorem cnt_m (m:Nat) (fix:Nat → Bool):cnt m fix ≤ m:=by
 have:=List.countP_le_length (p:=fun v=>!fix v) (l:=List.range m)
 rw [List.length_range] at this;exact this
theorem cnt_zero {m:Nat} {fix:Nat → Bool} (h:cnt m fix = 0):∀ v,v < m → fix v = true:=by
 intro v hv
 have:=(List.countP_eq_zero.1 h) v (List.mem_range.2 hv)
 simpa using this
theorem cnt_pos {m:Nat} {fix:Nat → Bool} {v:Nat} (hv:v < m) (h:fix v = false):0 < cnt m fix:=List.countP_pos_iff.2 ⟨v,List.mem_range.2 hv,by rw [h];rfl⟩
section
variable {p:List Int} {u:List S45} (hN:IsN p u)
include hN
theorem w_nat {i:Nat} (hi:i < u.length):(netOf p u).w i = (((rd_T45 u (i:Int)).f0.toNat:Nat):Rat) ∧ (rd_T45 u (i:Int)).f0 = ((rd_T45 u (i:Int)).f0.toNat:Int) ∧ 1 ≤ (rd_T45 u (i:Int)).f0.toNat ∧ (rd_T45 u (i:Int)).f0.toNat ≤ 4:=by
 have:=hN.wt i hi
 rw [← rdT45 hi] at this
 have e:(rd_T45 u (i:Int)).f0 = (((rd_T45 u (i:Int)).f0.toNat:Nat):Int):=by omega
 refine ⟨?_,e,by omega,by omega⟩
 exact (congrArg (fun z:Int=>(z:Rat)) e).trans (Rat.intCast_natCast _)
theorem wpos:∀ v,v < (netOf p u).m → 0 < (netOf p u).w v:=fun v hv=>by
 obtain ⟨e,_,h,_⟩:=w_nat hN hv
 rw [e]
 exact Rat.natCast_pos.2 (by omega)
theorem wN_eq (fix:Nat → Bool) (q:Nat):∀ i,i ≤ u.length → ((wN (netOf p u) u fix q i:Nat):Rat) = S i (fun v=>if (netOf p u).has v q && !fix v then (netOf p u).w v else 0)
 | 0,_=>rfl
 | i + 1,h=>by
  rw [wN,S_succ,← wN_eq fix q i (by omega)]
  split
  ·rw [(w_nat hN (i:=i) (by omega)).1];push_cast;rfl
  ·rw [Rat.add_zero]
theorem wN_W (fix:Nat → Bool) (q:Nat):((wN (netOf p u) u fix q u.length:Nat):Rat) = (netOf p u).W fix q:=wN_eq hN fix q u.length (Nat.le_refl _)
theorem wN_cnt (fix:Nat → Bool) (q:Nat):∀ i,i ≤ u.length → wN (netOf p u) u fix q i ≤ 4 * cnt i fix
 | 0,_=>by rw [wN];omega
 | i + 1,h=>by
  have h1:=wN_cnt fix q i (by omega)
  have h2:=(w_nat hN (i:=i) (by omega)).2.2.2
  rw [wN,cnt_succ]
  cases (netOf p u).has i q <;> cases fix i <;> simp <;> omega
theorem lf_left (fix:Nat → Bool) (r:Nat → Rat) (q:Nat):lf (netOf p u) fix r q u.length = (netOf p u).left fix r q:=rfl
structure FS (p:List Int) (u:List S45) (fix:Nat → Bool) (r:Nat → Rat) (lam:Rat) (D:Nat):Prop where
 fill:(netOf p u).Fill fix r lam
 lam0:0 ≤ lam
 rb:∀ v,v < u.length → fix v = true → 0 ≤ r v ∧ r v ≤ ((200:Nat):Rat) ∧ (r v).den ∣ D
 d0:0 < D
 dd:D * dens (cnt u.length fix) ≤ 2949120
theorem dens_pos:∀ k,1 ≤ dens k
 | 0=>Nat.le_refl _
 | k + 1=>by have:=dens_pos k;rw [dens];exact Nat.mul_pos (by omega) this
theorem cap_bd {q:Nat} (hq:q < p.length):0 ≤ (netOf p u).cap q ∧ (netOf p u).cap q ≤ ((200:Nat):Rat) ∧ ((netOf p u).cap q).den = 1:=by
 have h:=hN.cap q hq
 rw [← rd_get hq] at h
 refine ⟨?_,?_,?_⟩
 ·show (0:Rat) ≤ ((rd p (q:Int):Int):Rat)
  have:=cast_le h.1;simpa using this
 ·show ((rd p (q:Int):Int):Rat) ≤ _
  have:=cast_le h.2;simpa using this
 ·show ((rd p (q:Int):Int):Rat).den = 1
  exact whole_den _
variable {fix:Nat → Bool} {r:Nat → Rat} {lam:Rat} {D:Nat} (hF:FS p u fix r lam D)
include hF
theorem FS.D_le:D ≤ 2949120:=by
 have h1:=dens_pos hN (cnt u.length fix)
 have h2:=hF.dd
 have:D * 1 ≤ D * dens (cnt u.length fix):=Nat.mul_le_mul_left _ h1
 omega
theorem lf_bd {q:Nat} (hq:q < p.length):∀ i,i ≤ u.length → lf (netOf p u) fix r q i ≤ ((200:Nat):Rat) ∧ -((200 * i:Nat):Rat) ≤ lf (netOf p u) fix r q i ∧ (lf (netOf p u) fix r q i).den ∣ D
 | 0,_=>by
  obtain ⟨h1,h2,h3⟩:=cap_bd hN hq
  have e:lf (netOf p u) fix r q 0 = (netOf p u).cap q:=by unfold lf;rw [S_nil];grind
  rw [e,h3]
  refine ⟨h2,?_,Nat.one_dvd _⟩
  rw [show ((200 * 0:Nat):Rat) = 0 from rfl];grind
 | i + 1,h=>by
  obtain ⟨h1,h2,h3⟩:=lf_bd hq i (by omega)
  have e:((200 * (i + 1):Nat):Rat) = ((200 * i:Nat):Rat) + ((200:Nat):Rat):=by push_cast;grind
  have z:(0:Rat) ≤ ((200:Nat):Rat):=Rat.natCast_nonneg
  rw [lf_succ,e]
  by_cases hc:((netOf p u).has i q && fix i) = true
  ·rw [if_pos hc]
   have hfi:fix i = true:=by rw [Bool.and_eq_true] at hc;exact hc.2
   obtain ⟨a,b,c⟩:=hF.rb i (by omega) hfi
   exact ⟨by grind,by grind,sub_den_dvd' h3 c hF.d0⟩
  ·rw [if_neg hc]
   exact ⟨h1,by grind,h3⟩
theorem lf_num {q:Nat} (hq:q < p.length) {i:Nat} (hi:i ≤ u.length):(lf (netOf p u) fix r q i).num.natAbs ≤ 3538944000 ∧ (lf (netOf p u) fix r q i).den ≤ 2949120:=by
 obtain ⟨h1,h2,h3⟩:=lf_bd hN hF hq i hi
 have h6:=hN.u6
 have hD:=hF.D_le hN
 have hd:(lf (netOf p u) fix r q i).den ≤ 2949120:=Nat.le_trans (Nat.le_of_dvd hF.d0 h3) hD
 have e1:((200 * i:Nat):Rat) ≤ ((1200:Nat):Rat):=Rat.natCast_le_natCast.2 (by omega)
 have e2:((200:Nat):Rat) ≤ ((1200:Nat):Rat):=Rat.natCast_le_natCast.2 (by omega)
 have h5:=num_bound (B:=1200) (by grind) (Rat.le_trans h1 e2)
 have:1200 * (lf (netOf p u) fix r q i).den ≤ 1200 * 2949120:=Nat.mul_le_mul_left _ hd
 exact ⟨by omega,hd⟩
theorem r_num {v:Nat} (hv:v < u.length) (hf:fix v = true):(r v).num.natAbs ≤ 589824000 ∧ (r v).den ≤ 2949120:=by
 obtain ⟨h1,h2,h3⟩:=hF.rb v hv hf
 have hD:=hF.D_le hN
 have hd:(r v).den ≤ 2949120:=Nat.le_trans (Nat.le_of_dvd hF.d0 h3) hD
 have z:(0:Rat) ≤ ((200:Nat):Rat):=Rat.natCast_nonneg
 have h5:=num_bound (B:=200) (by grind) h2
 have:200 * (r v).den ≤ 200 * 2949120:=Nat.mul_le_mul_left _ hd
 exact ⟨by omega,hd⟩
theorem lf_fits {q:Nat} (hq:q < p.length) {i:Nat} (hi:i < u.length) (hf:fix i = true):Fits (lf (netOf p u) fix r q i) (r i):=by
 have a:=lf_num hN hF hq (i:=i) (by omega)
 have b:=r_num hN hF hi hf
 exact ⟨Nat.lt_of_le_of_lt (Nat.add_le_add (Nat.mul_le_mul a.1 b.2) (Nat.mul_le_mul b.1 a.2)) (by decide),Nat.lt_of_le_of_lt (Nat.mul_le_mul a.2 b.2) (by decide)⟩
def muq (p:List Int) (u:List S45) (fix:Nat → Bool) (r:Nat → Rat) (q:Nat):Rat:=lf (netOf p u) fix r q u.length / ((wN (netOf p u) u fix q u.length:Nat):Rat)
theorem wN_le {q:Nat} (hw:wN (netOf p u) u fix q u.length ≠ 0):D * wN (netOf p u) u fix q u.length ≤ 2949120 ∧ 0 < cnt u.length fix:=by
 have h1:=wN_cnt hN fix q u.length (Nat.le_refl _)
 have h2:0 < cnt u.length fix:=by omega
 have h3:=dens_step hF.dd h1 h2
 rw [show dens 0 = 1 from rfl,Nat.mul_one] at h3
 exact ⟨h3,h2⟩
theorem mu_num {q:Nat} (hq:q < p.length) (hw:wN (netOf p u) u fix q u.length ≠ 0):(muq p u fix r q).num.natAbs ≤ 3538944000 ∧ (muq p u fix r q).den ≤ 2949120 ∧ (muq p u fix r q).den ∣ D * wN (netOf p u) u fix q u.length ∧ muq p u fix r q ≤ ((200:Nat):Rat):=by
 obtain ⟨h1,h2,h3⟩:=lf_bd hN hF hq u.length (Nat.le_refl _)
 have h6:=hN.u6
 have hw0:0 < wN (netOf p u) u fix q u.length:=by omega
 obtain ⟨h4,_⟩:=wN_le hN hF hw
 have hdv:(muq p u fix r q).den ∣ D * wN (netOf p u) u fix q u.length:=Nat.dvd_trans (over_den _ hw0) (Nat.mul_dvd_mul_right h3 _)
 have hd:(muq p u fix r q).den ≤ 2949120:=Nat.le_trans (Nat.le_of_dvd (Nat.mul_pos hF.d0 hw0) hdv) h4
 have e1:((200 * u.length:Nat):Rat) ≤ ((1200:Nat):Rat):=Rat.natCast_le_natCast.2 (by omega)
 have e2:((200:Nat):Rat) ≤ ((1200:Nat):Rat):=Rat.natCast_le_natCast.2 (by omega)
 have z:(0:Rat) ≤ ((200:Nat):Rat):=Rat.natCast_nonneg
 have z2:(0:Rat) ≤ ((1200:Nat):Rat):=Rat.natCast_nonneg
 have hwr:(1:Rat) ≤ ((wN (netOf p u) u fix q u.length:Nat):Rat):=by
  have:=Rat.natCast_le_natCast (a:=1) (b:=wN (netOf p u) u fix q u.length)
  have h:=this.2 hw0
  simpa using h
 have hm:muq p u fix r q * ((wN (netOf p u) u fix q u.length:Nat):Rat) = lf (netOf p u) fix r q u.length:=by
  unfold muq
  exact Rat.div_mul_cancel (by grind)
 have up:muq p u fix r q ≤ ((200:Nat):Rat):=by
  by_cases hs:muq p u fix r q ≤ 0
  ·exact Rat.le_trans hs z
  ·have hs':0 ≤ muq p u fix r q:=by grind
   have:=Rat.mul_le_mul_of_nonneg_left hwr hs'
   grind
 have lo:-((1200:Nat):Rat) ≤ muq p u fix r q:=by
  by_cases hs:0 ≤ muq p u fix r q
  ·grind
  ·have hs':0 ≤ -muq p u fix r q:=by grind
   have:=Rat.mul_le_mul_of_nonneg_left hwr hs'
   grind
 have h5:=num_bound (B:=1200) lo (Rat.le_trans up e2)
 have:1200 * (muq p u fix r q).den ≤ 1200 * 2949120:=Nat.mul_le_mul_left _ hd
 exact ⟨by omega,hd,hdv,up⟩
theorem mu_fits {q q2:Nat} (hq:q < p.length) (hw:wN (netOf p u) u fix q u.length ≠ 0) (hq2:q2 < p.length) (hw2:wN (netOf p u) u fix q2 u.length ≠ 0):Fits (muq p u fix r q) (muq p u fix r q2):=by
 have a:=mu_num hN hF hq hw
 have b:=mu_num hN hF hq2 hw2
 exact ⟨Nat.lt_of_le_of_lt (Nat.add_le_add (Nat.mul_le_mul a.1 b.2.1) (Nat.mul_le_mul b.1 a.2.1)) (by decide),Nat.lt_of_le_of_lt (Nat.mul_le_mul a.2.1 b.2.1) (by decide)⟩
theorem mu_mul {q:Nat} (hw:wN (netOf p u) u fix q u.length ≠ 0):muq p u fix r q * (netOf p u).W fix q = (netOf p u).left fix r q:=by
 rw [← wN_W hN]
 have:((wN (netOf p u) u fix q u.length:Nat):Rat) ≠ 0:=by
  intro e
  have:=Rat.natCast_eq_zero_iff.1 e
  exact hw this
 exact Rat.div_mul_cancel this
theorem W_pos_iff {q:Nat}:0 < (netOf p u).W fix q ↔ wN (netOf p u) u fix q u.length ≠ 0:=by
 rw [← wN_W hN,Rat.natCast_pos]
 omega
end
end Go.Proofs.Ytjohcjfmlhihbaa.P
namespace Go.Proofs.Ytjohcjfmlhihbaa.G
open Go.RowKit Go.Proofs.YtjohcjfmlhihbaaW.PrintWords Go.Proofs.YtjohcjfmlhihbaaW.PrintLast Go.Proofs.YtjohcjfmlhihbaaW.PrintMore
set_option maxHeartbeats 8000000
set_option maxRecDepth 100000
attribute [local go_sem] cond_true cond_false fld23_0 fld23_1 fld45_0 fld45_1 fld109_0 fld109_1 fld94_0 fld94_1 max2_int min2_int max_two min_two max_three min_three max_four min_four
def shares_net_fair_1.l0:Nat → Int → Int → Int → Int → List Int → List (S45) → List Bool → List (S23) → Int → Int → Option (Int × Int × Bool)
 | 0,_,_,_,_,_,_,_,_,_,_=>none
 | k + 1,x0,x8,p8,m2,h9,e1,h1,e2,i0,i1=>if m2 < p8 then ((shares_net_has.f k h9 e1 m2 x0).bind fun m6=>(if m6 = true then (if 0 ≤ m2 then (if m2 < (h1.length:Int) then (if rdOf false h1 m2 = true then (if m2 < (e2.length:Int) then ((shares_minus.f k i0 i1 ((rd_T23 e2 m2).f0) ((rd_T23 e2 m2).f1)).bind fun h4=>(shares_net_fair_1.l0 k x0 x8 p8 (wrap64 (m2 + 1)) h9 e1 h1 e2 h4.1 h4.2)) else (none)) else (if m2 < (e1.length:Int) then (shares_net_fair_1.l0 k x0 (wrap64 (x8 + ((rd_T45 e1 m2).f0))) p8 (wrap64 (m2 + 1)) h9 e1 h1 e2 i0 i1) else (none))) else (none)) else (none)) else (shares_net_fair_1.l0 k x0 x8 p8 (wrap64 (m2 + 1)) h9 e1 h1 e2 i0 i1))) else (if x8 = 0 then (some (0,0,false)) else ((shares_over.f k i0 i1 x8).bind fun m7=>(some (m7.1,m7.2,true))))
def shares_net_fair_1.f (k:Nat) (a0:Int) (d0:List Int) (b8:List (S45)) (l2:List Bool) (l3:List (S23)):Option (Int × Int × Bool):=if 0 ≤ a0 then (if a0 < (d0.length:Int) then ((shares_whole.f (rd d0 a0)).bind fun i8=>(shares_net_fair_1.l0 k a0 0 (b8.length:Int) 0 d0 b8 l2 l3 i8.1 i8.2)) else (none)) else (none)
theorem shares_net_fair_1.mono_l:∀ k,(∀ y0 y1 y2 y3 y4 y5 y6 y7 y8 y9,LeO (shares_net_fair_1.l0 k y0 y1 y2 y3 y4 y5 y6 y7 y8 y9) (shares_net_fair_1.l0 (k + 1) y0 y1 y2 y3 y4 y5 y6 y7 y8 y9))
 | 0=>fun _ _ _ _ _ _ _ _ _ _ r h=>by simp [shares_net_fair_1.l0] at h
 | k + 1=>by
  have C6:=shares_net_fair_1.mono_l k
  intro y0 y1 y2 y3 y4 y5 y6 y7 y8 y9
  unfold shares_net_fair_1.l0
  repeat' first
  | (with_reducible first | exact C6 _ _ _ _ _ _ _ _ _ _ | exact shares_minus.mono _ _ _ _ _ | exact shares_net_has.mono _ _ _ _ _ | exact shares_over.mono _ _ _ _ | exact LeO.refl _ | exact LeO.none _ | refine LeO.ite ?_ ?_ | refine LeO.bind ?_ (fun _=>?_))
  | exact LeO.none _ | refine LeO.ite ?_ ?_ | refine LeO.bind ?_ (fun _=>?_)
theorem shares_net_fair_1.mono:∀ a0 a1 a2 a3 a4 k,LeO (shares_net_fair_1.f k a0 a1 a2 a3 a4) (shares_net_fair_1.f (k + 1) a0 a1 a2 a3 a4):=by
 intro a0 a1 a2 a3 a4 k
 have C6:=shares_net_fair_1.mono_l k
 unfold shares_net_fair_1.f
 repeat' first
   | (with_reducible first | exact C6 _ _ _ _ _ _ _ _ _ _ | exact shares_minus.mono _ _ _ _ _ | exact shares_net_has.mono _ _ _ _ _ | exact shares_over.mono _ _ _ _ | exact LeO.refl _ | exact LeO.none _ | refine LeO.ite ?_ ?_ | refine LeO.bind ?_ (fun _=>?_))
   | exact LeO.none _ | refine LeO.ite ?_ ?_ | refine LeO.bind ?_ (fun _=>?_)
theorem shares_net_fair_1.calls (k:Nat) (a0:Int) (n3:Option Addr) (h6:Nat) (d0:List Int) (h7:Option Addr) (h8:Nat) (b8:List (S45)) (A2:Option Addr) (c2:Nat) (l2:List Bool) (A3:Option Addr) (c3:Nat) (l3:List (S23)) (r1:Int) (r2:Int) (r3:Bool) (w:World) (d3 i4 h5:Nat) (D7:w.heap[d3]? = some (.cells #[.slice n3 d0.length h6,.slice h7 b8.length h8] 109 (0,0))) (D8:w.heap[i4]? = some (.cells #[.slice A2 l2.length c2] 115 (0,0))) (D9:w.heap[h5]? = some (.cells #[.slice A3 l3.length c3] 35 (0,0))) (C7:d3 ≠ i4) (C8:d3 ≠ h5) (C9:i4 ≠ h5) (m8:Kd.C (Kd.int .i64) w n3 d0.length d0) (m9:d0.length ≤ h6) (n0:Kd.C k45 w h7 b8.length b8) (n1:b8.length ≤ h8) (E0:Kd.C Kd.bool w A2 l2.length l2) (E1:l2.length ≤ c2) (E2:Kd.C k23 w A3 l3.length l3) (E3:l3.length ≤ c3) (h:shares_net_fair_1.f k a0 d0 b8 l2 l3 = some (r1,r2,r3)) :
  Calls Try.prog 103 #[.int .i64 a0,.pointer (some ⟨d3,0,none⟩),.pointer (some ⟨i4,0,none⟩),.pointer (some ⟨h5,0,none⟩)] w fun e w'=>e = .returned (.tuple #[.agg #[.int .i64 r1,.int .i64 r2],.bool r3]) ∧ Below w.heap.size w w':=by
 have E4:=Try.underlying109
 have O2:=Try.underlying23
 have b1:=A_ D7
 have b7:=A_ D8
 have b4:=A_ D9
 have e3:=A_ C7
 have e4:=A_ C7.symm
 have e5:=A_ C8
 have e6:=A_ C8.symm
 have i6:=A_ C9
 have i7:=A_ C9.symm
 clear D7 D8 D9 C7 C8 C9
 have j7:=A_ m8
 have m3:=A_ m9
 clear m8 m9
 have j8:=A_ n0
 have m4:=A_ n1
 clear n0 n1
 have E5:=A_ E0
 have P1:=A_ E1
 clear E0 E1
 have O3:=A_ E2
 have P2:=A_ E3
 clear E2 E3
 have HB:=A_ (Below.refl w.heap.size w)
 have H:(if 0 ≤ a0 then (if a0 < (d0.length:Int) then ((shares_whole.f (rd d0 a0)).bind fun i8=>(shares_net_fair_1.l0 k a0 0 (b8.length:Int) 0 d0 b8 l2 l3 i8.1 i8.2)) else (none)) else (none)) = some (r1,r2,r3):=h
 clear h
 by_cases c5:0 ≤ a0
 case neg =>
  rw [if_neg c5] at H
  exact absurd H (by simp)
 rw [if_pos c5] at H
 have O4:=decide_eq_true c5
 clear c5
 replace H:=gd H
 obtain ⟨c6,H⟩:=H
 have O5:=decide_eq_true c6
 clear c6
 replace H:=Option.bind_eq_some_iff.mp H
 obtain ⟨⟨n4,o7⟩,A70,H⟩:=H
 dsimp only at H
 have A7:=A_ A70
 clear A70
 have H':=A_ H
 clear H
 go_enter Try.func103,Try.ntmps103
 go_wp2_with (first | ((with_reducible refine gate_dst (N:=5) rfl ?_);refine bx 5 #[.int .i64 0,.int .i64 0] 23 ?_;intro i5 hg E6 hbox hb;have b5:=A_ hbox;have o8:=gw hg HB;have E7:=o8;have d4:=nl hg b1;have d5:=ng hg b1;have e7:=nl hg b7;have e8:=ng hg b7;have e9:=nl hg b4;have h0:=ng hg b4;replace b1:=kB b1 hb;replace b7:=kB b7 hb;replace b4:=kB b4 hb;replace HB:=bB HB hb;clear hb hbox hg;have E8:=e3.out;have E9:=e4.out;have F0:=e5.out;have F1:=e6.out;have F2:=d4.out;have F3:=d5.out;have p9:E6.cell? ⟨d3,0,none⟩ = some (.slice n3 d0.length h6):=cz b1 0;have q0:E6.cell? ⟨d3,1,none⟩ = some (.slice h7 b8.length h8):=cz b1 1;have q1:=blk_frozen b1.out 0;have q2:=blk_frozen b1.out 1;have n5:0 ≤ (a0:Int):=of_decide_eq_true (by assumption);have n6:a0 < (d0.length:Int):=of_decide_eq_true (by assumption);obtain ⟨h2,D0,j9⟩:=Kd.at_int j7.out a0 n5 n6;cases D0;replace j9:=cT HB j9;replace n5:=eq_true n5;replace n6:=eq_true n6) | ((with_reducible refine gate_callee (f:=64) rfl ?_);refine gL (some 15) Try.func64 #[.int .i64 (rd d0 a0)] ?_;(with_reducible refine (shares_whole.calls (rd d0 a0) n4 o7 _ A7.out).mono ?_);rintro e P3 ⟨rfl,hb⟩;refine ⟨_,rfl,?_⟩;replace b1:=kB b1 hb;replace b7:=kB b7 hb;replace b4:=kB b4 hb;replace b5:=kB b5 hb;replace HB:=bB HB hb;(try clear hb)) | ((with_reducible refine gate_dst (N:=7) rfl ?_);refine bx 7 #[.int .i64 0,.int .i64 0] 23 ?_;intro h3 hg q3 hbox hb;have b6:=A_ hbox;have o9:=gw hg HB;have F4:=o9;have b9:=nl hg b1;have d2:=ng hg b1;have c0:=nl hg b7;have d6:=ng hg b7;have c1:=nl hg b4;have d7:=ng hg b4;have d1:=nl hg b5;have d8:=ng hg b5;replace b1:=kB b1 hb;replace b7:=kB b7 hb;replace b4:=kB b4 hb;replace b5:=kB b5 hb;replace HB:=bB HB hb;clear hb hbox hg;have F5:=d2.out;have F6:=b9.out;have F7:=d6.out;have F8:=c0.out;have F9:=d7.out;have G0:=c1.out;have G1:=d8.out;have G2:=d1.out;have q4:q3.cell? ⟨h3,0,none⟩ = some (.int .i64 0):=cz b6 0;have q5:q3.cell? ⟨h3,1,none⟩ = some (.int .i64 0):=cz b6 1;have q6:=blk_frozen b6.out 0;have q7:=blk_frozen b6.out 1;have q8:q3.cell? ⟨d3,0,none⟩ = some (.slice (some h2) d0.length h6):=cz b1 0;have q9:q3.cell? ⟨d3,1,none⟩ = some (.slice h7 b8.length h8):=cz b1 1;have r0:=blk_frozen b1.out 0;have r4:=blk_frozen b1.out 1))
 go_loopg [8,19] k (fun kq v8 O6 w'=>∃ (e0:Int) (b0:Int) (b3:Int) (b2:Int),v8 = .int .i64 e0 ∧ O6 = .int .i64 b0 ∧ Aside0 (shares_net_fair_1.l0 kq a0 e0 (b8.length:Int) b0 d0 b8 l2 l3 b3 b2 = some (r1,r2,r3)) ∧ Aside0 (kq ≤ k) ∧ Aside0 (w'.heap[d3]? = some (.cells #[(.slice (some h2) d0.length h6),(.slice h7 b8.length h8)] 109 (0,0))) ∧ Aside0 (w'.heap[i4]? = some (.cells #[(.slice A2 l2.length c2)] 115 (0,0))) ∧ Aside0 (w'.heap[h5]? = some (.cells #[(.slice A3 l3.length c3)] 35 (0,0))) ∧ Aside0 (w'.heap[i5]? = some (.cells #[.int .i64 0,.int .i64 0] 23 (0,0))) ∧ Aside0 (w'.heap[h3]? = some (.cells #[.int .i64 b3,.int .i64 b2] 23 (0,0))) ∧ Aside0 (Below w.heap.size w w'))
 case atStart=>exact ⟨(0),(0),(n4),(o7),rfl,rfl,H',⟨Nat.le_refl _⟩,⟨by refine blk_far ?_ b9.out _;refine blk_far ?_ b9.out _;exact b1.out⟩,⟨by refine blk_far ?_ c0.out _;refine blk_far ?_ c0.out _;exact b7.out⟩,⟨by refine blk_far ?_ c1.out _;refine blk_far ?_ c1.out _;exact b4.out⟩,⟨by refine blk_far ?_ d1.out _;refine blk_far ?_ d1.out _;exact b5.out⟩,⟨by refine blk_put (cs:=#[.int .i64 n4,.int .i64 0]) ?_ 1 _ rfl;refine blk_put (cs:=#[.int .i64 0,.int .i64 0]) ?_ 0 _ rfl;exact b6.out⟩,⟨bl HB⟩⟩
 case round =>
  clear H'
  obtain ⟨e0,b0,b3,b2,rfl,rfl,HA,o5,b1,b7,b4,b5,b6,HB⟩:=hrel
  cases gk with
  | zero=>exact absurd HA.out (by simp [shares_net_fair_1.l0])
  | succ k1 =>
   have H:=HA.out
   clear HA
   simp only [shares_net_fair_1.l0] at H
   by_cases o6:b0 < (b8.length:Int)
   case neg =>
    rw [if_neg o6] at H
    have p0:=decide_eq_false o6
    clear o6
    by_cases n7:e0 = 0
    ·rw [if_pos n7] at H
     have p1:(e0 == 0) = true:=beq_iff_eq.mpr n7
     have p2:(e0 != 0) = false:=bne_eq_false_iff_eq.mpr n7
     clear n7
     simp only [Option.some.injEq,Prod.mk.injEq] at H
     obtain ⟨rfl,rfl,rfl⟩:=H
     have G3:=d5.out
     have G4:=d4.out
     have G5:=e8.out
     have G6:=e7.out
     have G7:=h0.out
     have G8:=e9.out
     have G9:=d1.out
     have H0:=d8.out
     have r5:wr.cell? ⟨i5,0,none⟩ = some (.int .i64 0):=cz b5 0
     have r6:wr.cell? ⟨i5,1,none⟩ = some (.int .i64 0):=cz b5 1
     have r7:=blk_frozen b5.out 0
     have r8:=blk_frozen b5.out 1
     go_wp2
     refine bodyPost_ret (results_ct rfl _ _ i5 23 #[.int .i64 0,.int .i64 0] (0,0) _ rfl (by refine blk_put (cs:=#[.int .i64 0,.int .i64 0]) ?_ 1 _ rfl;refine blk_put (cs:=#[.int .i64 0,.int .i64 0]) ?_ 0 _ rfl;exact b5.out) Try.underlying23 rfl (by kernel_rfl)) rfl ?_
     exact ⟨rfl,bl HB⟩
    rw [if_neg n7] at H
    have p1:(e0 == 0) = false:=beq_eq_false_iff_ne.mpr n7
    have p2:(e0 != 0) = true:=bne_iff_ne.mpr n7
    replace H:=Option.bind_eq_some_iff.mp H
    obtain ⟨⟨n8,p3⟩,A770,H⟩:=H
    dsimp only at H
    have O7:=A_ A770
    clear A770
    simp only [Option.some.injEq,Prod.mk.injEq] at H
    obtain ⟨rfl,rfl,rfl⟩:=H
    have H1:=d2.out
    have H2:=b9.out
    have H3:=d6.out
    have H4:=c0.out
    have H5:=d7.out
    have H6:=c1.out
    have H7:=d8.out
    have H8:=d1.out
    have r9:wr.cell? ⟨h3,0,none⟩ = some (.int .i64 b3):=cz b6 0
    have s0:wr.cell? ⟨h3,1,none⟩ = some (.int .i64 b2):=cz b6 1
    have s1:=blk_frozen b6.out 0
    have s2:=blk_frozen b6.out 1
    go_wp2_with (first | ((with_reducible refine gate_callee (f:=96) rfl ?_);refine gL (some 53) Try.func96 #[.agg #[.int .i64 b3,.int .i64 b2],.int .i64 e0] ?_;(with_reducible refine (shares_over.calls k1 b3 b2 e0 n8 p3 _ O7.out).mono ?_);rintro e H9 ⟨rfl,hb⟩;refine ⟨_,rfl,?_⟩;replace b1:=kB b1 hb;replace b7:=kB b7 hb;replace b4:=kB b4 hb;replace b5:=kB b5 hb;replace b6:=kB b6 hb;replace HB:=bB HB hb;(try clear hb);have I0:=d5.out;have I1:=d4.out;have I2:=e8.out;have I3:=e7.out;have I4:=h0.out;have I5:=e9.out;have s3:H9.cell? ⟨i5,0,none⟩ = some (.int .i64 0):=cz b5 0;have s4:H9.cell? ⟨i5,1,none⟩ = some (.int .i64 0):=cz b5 1;have s5:=blk_frozen b5.out 0;have s6:=blk_frozen b5.out 1))
    refine bodyPost_ret (results_ct rfl _ _ i5 23 #[.int .i64 n8,.int .i64 p3] (0,0) _ rfl (by refine blk_put (cs:=#[.int .i64 n8,.int .i64 0]) ?_ 1 _ rfl;refine blk_put (cs:=#[.int .i64 0,.int .i64 0]) ?_ 0 _ rfl;exact b5.out) Try.underlying23 rfl (by kernel_rfl)) rfl ?_
    exact ⟨rfl,bl HB⟩
   rw [if_pos o6] at H
   have p0:=decide_eq_true o6
   clear o6
   replace H:=Option.bind_eq_some_iff.mp H
   obtain ⟨m6,p4,H⟩:=H
   replace H:(if m6 = true then (if 0 ≤ b0 then (if b0 < (l2.length:Int) then (if rdOf false l2 b0 = true then (if b0 < (l3.length:Int) then ((shares_minus.f k1 b3 b2 ((rd_T23 l3 b0).f0) ((rd_T23 l3 b0).f1)).bind fun h4=>(shares_net_fair_1.l0 k1 a0 e0 (b8.length:Int) (wrap64 (b0 + 1)) d0 b8 l2 l3 h4.1 h4.2)) else (none)) else (if b0 < (b8.length:Int) then (shares_net_fair_1.l0 k1 a0 (wrap64 (e0 + ((rd_T45 b8 b0).f0))) (b8.length:Int) (wrap64 (b0 + 1)) d0 b8 l2 l3 b3 b2) else (none))) else (none)) else (none)) else (shares_net_fair_1.l0 k1 a0 e0 (b8.length:Int) (wrap64 (b0 + 1)) d0 b8 l2 l3 b3 b2)) = some (r1,r2,r3):=H
   have D1:=A_ p4
   clear p4
   by_cases s7:m6 = true
   case neg =>
    replace s7:=Bool.eq_false_iff.mpr s7
    subst s7
    rw [if_neg (show ¬ (false = true) by decide)] at H
    have H':=A_ H
    clear H
    have I6:=e3.out
    have I7:=e4.out
    have I8:=e5.out
    have I9:=e6.out
    have J0:=d4.out
    have J1:=d5.out
    have J2:=b9.out
    have J3:=d2.out
    have s8:wr.cell? ⟨d3,0,none⟩ = some (.slice (some h2) d0.length h6):=cz b1 0
    have s9:wr.cell? ⟨d3,1,none⟩ = some (.slice h7 b8.length h8):=cz b1 1
    have t0:=blk_frozen b1.out 0
    have t1:=blk_frozen b1.out 1
    go_wp2_with (first | ((with_reducible refine gate_callee (f:=104) rfl ?_);refine gL (some 34) Try.func104 #[.agg #[.slice (some h2) d0.length h6,.slice h7 b8.length h8],.int .i64 b0,.int .i64 a0] ?_;(with_reducible refine (shares_net_has.calls k1 _ _ d0 _ _ b8 b0 a0 false _ ?side1 ?side2 ?side3 ?side4 D1.out).mono ?_);(case side1=>exact cB j7 HB);(case side2=>exact m3.out);(case side3=>exact cB j8 HB);(case side4=>exact m4.out);rintro e P4 ⟨rfl,hb⟩;refine ⟨_,rfl,?_⟩;replace b1:=kB b1 hb;replace b7:=kB b7 hb;replace b4:=kB b4 hb;replace b5:=kB b5 hb;replace b6:=kB b6 hb;replace HB:=bB HB hb;(try clear hb)))
    go_roundg k1
    case measure=>have:=o5.out;omega
    case rel=>exact ⟨(e0),(wrap64 (b0 + 1)),(b3),(b2),rfl,rfl,H',⟨by have:=o5.out;omega⟩,⟨by exact b1.out⟩,⟨by exact b7.out⟩,⟨by exact b4.out⟩,⟨by exact b5.out⟩,⟨by exact b6.out⟩,⟨bl HB⟩⟩
   subst s7
   rw [if_pos rfl] at H
   replace H:=gd H
   obtain ⟨J4,H⟩:=H
   have J5:=decide_eq_true J4
   clear J4
   replace H:=gd H
   obtain ⟨J6,H⟩:=H
   have J7:=decide_eq_true J6
   clear J6
   obtain ⟨p5,m5⟩:∃ b_:Bool,b_ = (rdOf false l2 b0):=⟨_,rfl⟩
   replace H:(if p5 = true then (if b0 < (l3.length:Int) then ((shares_minus.f k1 b3 b2 ((rd_T23 l3 b0).f0) ((rd_T23 l3 b0).f1)).bind fun h4=>(shares_net_fair_1.l0 k1 a0 e0 (b8.length:Int) (wrap64 (b0 + 1)) d0 b8 l2 l3 h4.1 h4.2)) else (none)) else (if b0 < (b8.length:Int) then (shares_net_fair_1.l0 k1 a0 (wrap64 (e0 + ((rd_T45 b8 b0).f0))) (b8.length:Int) (wrap64 (b0 + 1)) d0 b8 l2 l3 b3 b2) else (none))) = some (r1,r2,r3):=by rw [← m5] at H;exact H
   have n2:=A_ m5
   clear m5
   by_cases t2:p5 = true
   case neg =>
    replace t2:=Bool.eq_false_iff.mpr t2
    subst t2
    rw [if_neg (show ¬ (false = true) by decide)] at H
    replace H:=gd H
    obtain ⟨J8,H⟩:=H
    have J9:=decide_eq_true J8
    clear J8
    have H':=A_ H
    clear H
    have K0:=e3.out
    have K1:=e4.out
    have K2:=e5.out
    have K3:=e6.out
    have K4:=d4.out
    have K5:=d5.out
    have K6:=b9.out
    have K7:=d2.out
    have t3:wr.cell? ⟨d3,0,none⟩ = some (.slice (some h2) d0.length h6):=cz b1 0
    have t4:wr.cell? ⟨d3,1,none⟩ = some (.slice h7 b8.length h8):=cz b1 1
    have t5:=blk_frozen b1.out 0
    have t6:=blk_frozen b1.out 1
    go_wp2_with (first | ((with_reducible refine gate_callee (f:=104) rfl ?_);refine gL (some 34) Try.func104 #[.agg #[.slice (some h2) d0.length h6,.slice h7 b8.length h8],.int .i64 b0,.int .i64 a0] ?_;(with_reducible refine (shares_net_has.calls k1 _ _ d0 _ _ b8 b0 a0 true _ ?side1 ?side2 ?side3 ?side4 D1.out).mono ?_);(case side1=>exact cB j7 HB);(case side2=>exact m3.out);(case side3=>exact cB j8 HB);(case side4=>exact m4.out);rintro e t7 ⟨rfl,hb⟩;refine ⟨_,rfl,?_⟩;replace b1:=kB b1 hb;replace b7:=kB b7 hb;replace b4:=kB b4 hb;replace b5:=kB b5 hb;replace b6:=kB b6 hb;replace HB:=bB HB hb;(try clear hb);have K8:=i6.out;have K9:=i7.out;have L0:=e7.out;have L1:=e8.out;have L2:=c0.out;have L3:=d6.out;have t8:t7.cell? ⟨i4,0,none⟩ = some (.slice A2 l2.length c2):=cz b7 0;have t9:=blk_frozen b7.out 0;have i9:0 ≤ (b0:Int):=of_decide_eq_true (by assumption);have j5:b0 < (l2.length:Int):=of_decide_eq_true (by assumption);obtain ⟨p6,n9,d9⟩:=Kd.at_bool E5.out b0 i9 j5;(try rw [← n2.out] at d9);cases n9;replace d9:=cT HB d9;replace i9:=eq_true i9;replace j5:=eq_true j5;have L4:=e9.out;have L5:=h0.out;have L6:=c1.out;have L7:=d7.out;have x1:t7.cell? ⟨h5,0,none⟩ = some (.slice A3 l3.length c3):=cz b4 0;have x2:=blk_frozen b4.out 0;have x3:t7.cell? ⟨d3,0,none⟩ = some (.slice (some h2) d0.length h6):=cz b1 0;have x4:t7.cell? ⟨d3,1,none⟩ = some (.slice h7 b8.length h8):=cz b1 1;have x5:=blk_frozen b1.out 0;have x6:=blk_frozen b1.out 1;have o0:0 ≤ (b0:Int):=of_decide_eq_true (by assumption);have o1:b0 < (b8.length:Int):=of_decide_eq_true (by assumption);obtain ⟨L8,D2,D3,D4,l5,l6,l7,l8⟩:=at_T45 j8.out b0 o0 o1;cases D4;replace l5:=cT HB l5;replace l6:=cT HB l6;have x7:=A_ l8;have x9:=A_ l7;clear l8 l7;replace o0:=eq_true o0;replace o1:=eq_true o1))
    go_roundg k1
    case measure=>have:=o5.out;omega
    case rel=>exact ⟨(wrap64 (e0 + ((rd_T45 b8 b0).f0))),(wrap64 (b0 + 1)),(b3),(b2),rfl,rfl,H',⟨by have:=o5.out;omega⟩,⟨by exact b1.out⟩,⟨by exact b7.out⟩,⟨by exact b4.out⟩,⟨by exact b5.out⟩,⟨by exact b6.out⟩,⟨bl HB⟩⟩
   subst t2
   rw [if_pos rfl] at H
   replace H:=gd H
   obtain ⟨L9,H⟩:=H
   have M0:=decide_eq_true L9
   clear L9
   replace H:=Option.bind_eq_some_iff.mp H
   obtain ⟨⟨o2,p7⟩,A320,H⟩:=H
   dsimp only at H
   have O8:=A_ A320
   clear A320
   have H':=A_ H
   clear H
   have M1:=e3.out
   have M2:=e4.out
   have M3:=e5.out
   have M4:=e6.out
   have M5:=d4.out
   have M6:=d5.out
   have M7:=b9.out
   have M8:=d2.out
   have z0:wr.cell? ⟨d3,0,none⟩ = some (.slice (some h2) d0.length h6):=cz b1 0
   have z1:wr.cell? ⟨d3,1,none⟩ = some (.slice h7 b8.length h8):=cz b1 1
   have z2:=blk_frozen b1.out 0
   have z3:=blk_frozen b1.out 1
   try go_wp2_with (first | ((with_reducible refine gate_callee (f:=104) rfl ?_);refine gL (some 34) Try.func104 #[.agg #[.slice (some h2) d0.length h6,.slice h7 b8.length h8],.int .i64 b0,.int .i64 a0] ?_;(with_reducible refine (shares_net_has.calls k1 _ _ d0 _ _ b8 b0 a0 true _ ?side1 ?side2 ?side3 ?side4 D1.out).mono ?_);(case side1=>exact cB j7 HB);(case side2=>exact m3.out);(case side3=>exact cB j8 HB);(case side4=>exact m4.out);rintro e D5 ⟨rfl,hb⟩;refine ⟨_,rfl,?_⟩;replace b1:=kB b1 hb;replace b7:=kB b7 hb;replace b4:=kB b4 hb;replace b5:=kB b5 hb;replace b6:=kB b6 hb;replace HB:=bB HB hb;(try clear hb);have M9:=i6.out;have N0:=i7.out;have N1:=e7.out;have N2:=e8.out;have N3:=c0.out;have N4:=d6.out;have z4:D5.cell? ⟨i4,0,none⟩ = some (.slice A2 l2.length c2):=cz b7 0;have z5:=blk_frozen b7.out 0;have i9:0 ≤ (b0:Int):=of_decide_eq_true (by assumption);have j5:b0 < (l2.length:Int):=of_decide_eq_true (by assumption);obtain ⟨p6,n9,d9⟩:=Kd.at_bool E5.out b0 i9 j5;(try rw [← n2.out] at d9);cases n9;replace d9:=cT HB d9;replace i9:=eq_true i9;replace j5:=eq_true j5;have N5:=e9.out;have N6:=h0.out;have N7:=c1.out;have N8:=d7.out;have z6:D5.cell? ⟨h5,0,none⟩ = some (.slice A3 l3.length c3):=cz b4 0;have z7:=blk_frozen b4.out 0))
   replace b1:=kD b1
   replace b7:=kD b7
   replace b4:=kD b4
   replace b5:=kD b5
   replace b6:=kD b6
   replace HB:=bD HB
   have o3:0 ≤ (b0:Int):=of_decide_eq_true (by assumption)
   have o4:b0 < (l3.length:Int):=of_decide_eq_true (by assumption)
   obtain ⟨l9,D6,i2,i3⟩:=at_T23 O3.out b0 o3 o4
   have m0:=i3
   have m1:=i2
   cases D6
   replace i2:=cT HB i2
   replace i3:=cT HB i3
   replace o3:=eq_true o3
   replace o4:=eq_true o4
   refine start_ (n:=7) (S:=fun w'=>w'.cell? ⟨h3,0,none⟩ = some (.int .i64 b3) ∧ w'.cell? ⟨h3,1,none⟩ = some (.int .i64 b2) ∧ w'.cell? ⟨h5,0,none⟩ = some (.slice (some l9) l3.length c3) ∧ w'.cell? (l9.add ((b0).toNat * 2)) = some (.int .i64 ((rd_T23 l3 b0).f0)) ∧ w'.cell? ⟨(l9.add ((b0).toNat * 2)).block,(l9.add ((b0).toNat * 2)).off + 1,none⟩ = some (.int .i64 ((rd_T23 l3 b0).f1))) (ds:=[6]) (ba 7 0) (by kernel_rfl) rfl rfl ⟨cz b6 0,cz b6 1,cz b4 0,(cT HB m1),(cT HB m0)⟩ (fun hHeld=>?_)
   generalize D5.drew = P5 at b1 b7 b4 b5 b6 HB i2 i3 hHeld ⊢
   refine pr 2 43 4 ?_
   refine tr 0 41 5 hHeld ?_
   refine tr 1 42 7 hHeld ?_
   refine pr 3 44 15 ?_
   refine tr 4 45 31 hHeld ?_
   refine os 5 46 63 (fun K hK=>?_)
   refine gq Try.func95 #[.agg #[.int .i64 b3,.int .i64 b2],.agg #[.int .i64 ((rd_T23 l3 b0).f0),.int .i64 ((rd_T23 l3 b0).f1)]] ?_
   with_reducible refine (shares_minus.calls k1 b3 b2 ((rd_T23 l3 b0).f0) ((rd_T23 l3 b0).f1) o2 p7 _ O8.out).mono ?_
   rintro e N9 ⟨rfl,hb⟩
   refine ⟨_,rfl,?_⟩
   replace b1:=kB b1 hb
   replace b7:=kB b7 hb
   replace b4:=kB b4 hb
   replace b5:=kB b5 hb
   replace b6:=kB b6 hb
   replace HB:=bB HB hb
   (try clear hb)
   refine hK.out _ _ ⟨cz b6 0,cz b6 1,cz b4 0,(cT HB m1),(cT HB m0)⟩ (fun hHeld=>?_)
   clear hK K
   refine nq 46 ?_
   refine last_ (i:=6) (N:=none) (ba 7 127) rfl rfl (by kernel_rfl) (by decide) (fun K hK=>?_)
   have O9:N9.cell? ⟨h3,0,none⟩ = some (.int .i64 b3):=cz b6 0
   have O0:=blk_frozen b6.out 0
   have z8:=b9.out
   have z9:=c0.out
   have A0:=c1.out
   have A1:=d1.out
   have A4:=d2.out
   have A5:=d6.out
   have A6:=d7.out
   have A8:=d8.out
   have P0:N9.cell? ⟨h3,1,none⟩ = some (.int .i64 b2):=cz b6 1
   have O1:=blk_frozen b6.out 1
   have A9:=b9.out
   have B0:=c0.out
   have C0:=c1.out
   have C1:=d1.out
   have C2:=d2.out
   have C3:=d6.out
   have C4:=d7.out
   have C5:=d8.out
   refine skip_ (w1:=?_) (by rfl) rfl ?_ ?_
   rotate_left
   ·go_simp
    rfl
   refine hK.out _ _ ?_
   clear hK K
   refine done_ (by kernel_rfl) ?_
   try go_wp2
   go_roundg k1
   case measure=>have:=o5.out;omega
   case rel=>exact ⟨(e0),(wrap64 (b0 + 1)),(o2),(p7),rfl,rfl,H',⟨by have:=o5.out;omega⟩,⟨by refine blk_far ?_ b9.out _;refine blk_far ?_ b9.out _;exact b1.out⟩,⟨by refine blk_far ?_ c0.out _;refine blk_far ?_ c0.out _;exact b7.out⟩,⟨by refine blk_far ?_ c1.out _;refine blk_far ?_ c1.out _;exact b4.out⟩,⟨by refine blk_far ?_ d1.out _;refine blk_far ?_ d1.out _;exact b5.out⟩,⟨by refine blk_put (cs:=#[.int .i64 o2,.int .i64 b2]) ?_ 1 _ rfl;refine blk_put (cs:=#[.int .i64 b3,.int .i64 b2]) ?_ 0 _ rfl;exact b6.out⟩,⟨bl HB⟩⟩
end Go.Proofs.Ytjohcjfmlhihbaa.G
namespace Go.Proofs.Ytjohcjfmlhihbaa.G
open Go.RowKit Go.Proofs.YtjohcjfmlhihbaaW.PrintWords Go.Proofs.YtjohcjfmlhihbaaW.PrintLast Go.Proofs.YtjohcjfmlhihbaaW.PrintMore
set_option maxHeartbeats 8000000
set_option maxRecDepth 100000
attribute [local go_sem] cond_true cond_false fld23_0 fld23_1 fld45_0 fld45_1 fld109_0 fld109_1 fld94_0 fld94_1 max2_int min2_int max_two min_two max_three min_three max_four min_four   -- for this text's walks alone
def slices_Index_bool_bool.l0:Nat → List Bool → Bool → Int → Int → Option (Int)
 | 0,_,_,_,_=>none
 | k + 1,x0,x1,x7,x8=>if x8 < x7 then (if 0 ≤ x8 then (if x8 < (x0.length:Int) then (if (x1 == (rdOf false x0 x8)) = true then (some x8) else (slices_Index_bool_bool.l0 k x0 x1 x7 (wrap64 (x8 + 1)))) else (none)) else (none)) else (some (-1))
def slices_Index_bool_bool.f (k:Nat) (l0:List Bool) (a1:Bool):Option (Int):=slices_Index_bool_bool.l0 k l0 a1 (l0.length:Int) 0
theorem slices_Index_bool_bool.mono_l:∀ k,(∀ y0 y1 y2 y3,LeO (slices_Index_bool_bool.l0 k y0 y1 y2 y3) (slices_Index_bool_bool.l0 (k + 1) y0 y1 y2 y3))
 | 0=>fun _ _ _ _ r h=>by simp [slices_Index_bool_bool.l0] at h
 | k + 1=>by
  have b5:=slices_Index_bool_bool.mono_l k
  intro y0 y1 y2 y3
  unfold slices_Index_bool_bool.l0
  repeat' first
  | (with_reducible exact b5 _ _ _ _)
  | (with_reducible exact LeO.refl _)
  | (with_reducible exact LeO.none _)
  | (with_reducible refine LeO.ite ?_ ?_)
  | (with_reducible refine LeO.bind ?_ (fun _=>?_))
  | exact b5 _ _ _ _
  | exact LeO.none _
  | refine LeO.ite ?_ ?_
  | refine LeO.bind ?_ (fun _=>?_)
theorem slices_Index_bool_bool.mono:∀ a0 a1 k,LeO (slices_Index_bool_bool.f k a0 a1) (slices_Index_bool_bool.f (k + 1) a0 a1):=by
 intro a0 a1 k
 have b5:=slices_Index_bool_bool.mono_l k
 unfold slices_Index_bool_bool.f
 repeat' first
   | (with_reducible exact b5 _ _ _ _)
   | (with_reducible exact LeO.refl _)
   | (with_reducible exact LeO.none _)
   | (with_reducible refine LeO.ite ?_ ?_)
   | (with_reducible refine LeO.bind ?_ (fun _=>?_))
   | exact b5 _ _ _ _
   | exact LeO.none _
   | refine LeO.ite ?_ ?_
   | refine LeO.bind ?_ (fun _=>?_)
theorem slices_Index_bool_bool.calls (k:Nat) (A0:Option Addr) (c0:Nat) (l0:List Bool) (a1:Bool) (r:Int) (w:World) (d1:Kd.C Kd.bool w A0 l0.length l0) (d2:l0.length ≤ c0) (h:slices_Index_bool_bool.f k l0 a1 = some r) :
  Calls Try.prog 125 #[.slice A0 l0.length c0,.bool a1] w fun e w'=>e = .returned (.int .i64 r) ∧ Drawn0 w w':=by
 have d3:=Aside0.mk d1
 have d8:=Aside0.mk d2
 clear d1 d2
 have H:(slices_Index_bool_bool.l0 k l0 a1 (l0.length:Int) 0) = some r:=h
 clear h
 have H':=Aside0.mk H
 clear H
 go_enter Try.func125,Try.ntmps125
 go_wp2
 go_loopg [8] k (fun kq v8 w'=>∃ (b0:Int),v8 = .int .i64 b0 ∧ Aside0 (slices_Index_bool_bool.l0 kq l0 a1 (l0.length:Int) b0 = some r) ∧ Aside0 (kq ≤ k) ∧ Drawn0 w w')
 case atStart=>exact ⟨(0),(by first | rfl | (simp;done) | (simp [*];done)),H',⟨Nat.le_refl _⟩,by repeat (first | exact Drawn0.refl _ | apply Drawn0.step)⟩
 case round =>
  clear H'
  try clear c1
  try clear p2
  obtain ⟨b0,rfl,HA,d4,⟨m1,rfl⟩⟩:=hrel
  cases gk with
  | zero=>exact absurd HA.out (by simp [slices_Index_bool_bool.l0])
  | succ k1 =>
   have H:=HA.out
   clear HA
   simp only [slices_Index_bool_bool.l0] at H
   by_cases c3:b0 < (l0.length:Int)
   case neg =>
    rw [if_neg c3] at H
    have b7:decide (b0 < (l0.length:Int)) = false:=decide_eq_false c3
    clear c3
    obtain rfl:=Option.some.inj H
    go_wp2
    go_ret
    exact ⟨by first | rfl | (simp;done) | (simp [*];done),by repeat (first | exact Drawn0.refl _ | apply Drawn0.step)⟩
   rw [if_pos c3] at H
   have b7:decide (b0 < (l0.length:Int)) = true:=decide_eq_true c3
   clear c3
   by_cases c4:0 ≤ b0
   case neg =>
    rw [if_neg c4] at H
    exact absurd H (by simp)
   rw [if_pos c4] at H
   have d5:decide (0 ≤ b0) = true:=decide_eq_true c4
   clear c4
   by_cases c5:b0 < (l0.length:Int)
   case neg =>
    rw [if_neg c5] at H
    exact absurd H (by simp)
   rw [if_pos c5] at H
   have d6:decide (b0 < (l0.length:Int)) = true:=decide_eq_true c5
   clear c5
   by_cases c6:(a1 == (rdOf false l0 b0)) = true
   ·rw [if_pos c6] at H
    have b8:(a1 == (rdOf false l0 b0)) = true:=c6
    (try (have b9:decide (a1 = (rdOf false l0 b0)) = true:=by simpa using c6))
    (try (have d0:(a1 == (rdOf false l0 b0)) = true:=by simpa using c6))
    clear c6
    obtain rfl:=Option.some.inj H
    have b1:0 ≤ (b0:Int):=of_decide_eq_true (by first | (with_reducible assumption) | assumption)
    have b2:b0 < (l0.length:Int):=of_decide_eq_true (by first | (with_reducible assumption) | assumption)
    obtain ⟨b6,b4,b3⟩:=Kd.at_bool d3.out b0 b1 b2
    cases b4
    replace b1:=eq_true b1
    replace b2:=eq_true b2
    go_wp2
    go_ret
    exact ⟨by first | rfl | (simp;done) | (simp [*];done),by repeat (first | exact Drawn0.refl _ | apply Drawn0.step)⟩
   rw [if_neg c6] at H
   have b8:(a1 == (rdOf false l0 b0)) = false:=by simpa using c6
   (try (have b9:decide (a1 = (rdOf false l0 b0)) = false:=by simpa using c6))
   (try (have d0:(a1 == (rdOf false l0 b0)) = false:=by simpa using c6))
   (try (have d7:¬ (a1 = (rdOf false l0 b0)):=by simpa using c6))
   clear c6
   have H':=Aside0.mk H
   clear H
   have b1:0 ≤ (b0:Int):=of_decide_eq_true (by first | (with_reducible assumption) | assumption)
   have b2:b0 < (l0.length:Int):=of_decide_eq_true (by first | (with_reducible assumption) | assumption)
   obtain ⟨b6,b4,b3⟩:=Kd.at_bool d3.out b0 b1 b2
   cases b4
   replace b1:=eq_true b1
   replace b2:=eq_true b2
   go_wp2
   go_roundg k1
   case measure=>have:=d4.out;omega
   case rel=>exact ⟨(wrap64 (b0 + 1)),(by first | rfl | (simp;done) | (simp [*];done)),H',⟨by have:=d4.out;omega⟩,by repeat (first | exact Drawn0.refl _ | apply Drawn0.step)⟩
def slices_Contains_bool_bool.f (k:Nat) (l0:List Bool) (a1:Bool):Option (Bool):=(slices_Index_bool_bool.f k l0 a1).bind fun b0=>(some (decide (b0 ≥ 0)))
theorem slices_Contains_bool_bool.mono:∀ a0 a1 k,LeO (slices_Contains_bool_bool.f k a0 a1) (slices_Contains_bool_bool.f (k + 1) a0 a1):=by
 intro a0 a1 k
 unfold slices_Contains_bool_bool.f
 repeat' first
   | (with_reducible exact slices_Index_bool_bool.mono _ _ _)
   | (with_reducible exact LeO.refl _)
   | (with_reducible exact LeO.none _)
   | (with_reducible refine LeO.ite ?_ ?_)
   | (with_reducible refine LeO.bind ?_ (fun _=>?_))
   | exact slices_Index_bool_bool.mono _ _ _
   | exact LeO.none _
   | refine LeO.ite ?_ ?_
   | refine LeO.bind ?_ (fun _=>?_)
theorem slices_Contains_bool_bool.calls (k:Nat) (A0:Option Addr) (c0:Nat) (l0:List Bool) (a1:Bool) (r:Bool) (w:World) (b1:Kd.C Kd.bool w A0 l0.length l0) (b2:l0.length ≤ c0) (h:slices_Contains_bool_bool.f k l0 a1 = some r) :
  Calls Try.prog 105 #[.slice A0 l0.length c0,.bool a1] w fun e w'=>e = .returned (.bool r) ∧ Drawn0 w w':=by
 have b4:=Aside0.mk b1
 have b5:=Aside0.mk b2
 clear b1 b2
 have H:((slices_Index_bool_bool.f k l0 a1).bind fun b0=>(some (decide (b0 ≥ 0)))) = some r:=h
 clear h
 replace H:=Option.bind_eq_some_iff.mp H
 obtain ⟨b0,b3,H⟩:=H
 replace H:(some (decide (b0 ≥ 0))) = some r:=H
 have A3:=Aside0.mk b3
 clear b3
 obtain rfl:=Option.some.inj H
 go_enter Try.func105,Try.ntmps105
 go_wp2_with (first | ((with_reducible refine gate_callee (f:=125) rfl ?_);refine goesL_ (some 7) rfl rfl Try.func125 (by kernel_rfl) rfl #[.slice A0 l0.length c0,.bool a1] rfl (by (try simp only [List.map_toArray,List.map_cons,List.map_nil]);first | done | rfl | (simp only [List.length_drop,List.length_take];rfl)) ?_;(with_reducible refine (slices_Index_bool_bool.calls k _ _ l0 a1 b0 _ ?side1 ?side2 A3.out).mono ?_);(case side1=>repeat (first | exact b4.out | (with_reducible refine Kd.C_alloc ?_ _) | (with_reducible refine Kd.C_drewN ?_ _) | (with_reducible refine Kd.C_drew ?_)));(case side2=>exact b5.out);rintro e w' ⟨rfl,⟨nd,rfl⟩⟩;refine ⟨_,rfl,?_⟩))
 go_ret
 exact ⟨by first | rfl | (simp;done) | (simp [*];done),by repeat (first | exact Drawn0.refl _ | apply Drawn0.step)⟩
end Go.Proofs.Ytjohcjfmlhihbaa.G
namespace Go.Proofs.Ytjohcjfmlhihbaa.G
open Go.RowKit Go.Proofs.YtjohcjfmlhihbaaW.PrintWords Go.Proofs.YtjohcjfmlhihbaaW.PrintLast Go.Proofs.YtjohcjfmlhihbaaW.PrintMore
set_option maxHeartbeats 8000000
set_option maxRecDepth 100000
attribute [local go_sem] cond_true cond_false fld23_0 fld23_1 fld45_0 fld45_1 fld109_0 fld109_1 fld94_0 fld94_1 max2_int min2_int max_two min_two max_three min_three max_four min_four
mutual
def shares_net_fair.l0:Nat → List Int → List (S45) → List (S23) → List Bool → Option ((List (S23)))
 | 0,_,_,_,_=>none
 | k + 1,i0,h1,i1,h2=>(slices_Contains_bool_bool.f k h2 false).bind fun r0=>(if r0 = true then (shares_net_fair.l1 k (-1) (i0.length:Int) 0 i0 h1 i1 h2 0 0) else (some i1))
def shares_net_fair.l1:Nat → Int → Int → Int → List Int → List (S45) → List (S23) → List Bool → Int → Int → Option ((List (S23)))
 | 0,_,_,_,_,_,_,_,_,_=>none
 | k + 1,x6,A1,r6,i0,h1,i1,h2,j5,j7=>if r6 < A1 then ((shares_net_fair_1.f k r6 i0 h1 h2 i1).bind fun m6=>(if m6.2.2 = true then (if x6 < 0 then (shares_net_fair.l1 k r6 A1 (wrap64 (r6 + 1)) i0 h1 i1 h2 m6.1 m6.2.1) else ((shares_compare.f k m6.1 m6.2.1 j5 j7).bind fun p1=>(if p1 < 0 then (shares_net_fair.l1 k r6 A1 (wrap64 (r6 + 1)) i0 h1 i1 h2 m6.1 m6.2.1) else (shares_net_fair.l1 k x6 A1 (wrap64 (r6 + 1)) i0 h1 i1 h2 j5 j7)))) else (shares_net_fair.l1 k x6 A1 (wrap64 (r6 + 1)) i0 h1 i1 h2 j5 j7))) else (shares_net_fair.l2 k x6 (h1.length:Int) 0 i0 h1 i1 h2 j5 j7)
def shares_net_fair.l2:Nat → Int → Int → Int → List Int → List (S45) → List (S23) → List Bool → Int → Int → Option ((List (S23)))
 | 0,_,_,_,_,_,_,_,_,_=>none
 | k + 1,x6,K5,p2,i0,h1,i1,h2,j5,j7=>if p2 < K5 then (if 0 ≤ p2 then (if p2 < (h2.length:Int) then (if rdOf false h2 p2 = true then (shares_net_fair.l2 k x6 K5 (wrap64 (p2 + 1)) i0 h1 i1 h2 j5 j7) else ((shares_net_has.f k i0 h1 p2 x6).bind fun p3=>(if p3 = true then (if p2 < (h1.length:Int) then ((shares_times.f k j5 j7 ((rd_T45 h1 p2).f0)).bind fun m0=>(if p2 < (i1.length:Int) then (shares_net_fair.l2 k x6 K5 (wrap64 (p2 + 1)) i0 h1 (i1.set (p2:Int).toNat (⟨m0.1,m0.2⟩:S23)) (h2.set (p2:Int).toNat true) j5 j7) else (none))) else (none)) else (shares_net_fair.l2 k x6 K5 (wrap64 (p2 + 1)) i0 h1 i1 h2 j5 j7)))) else (none)) else (none)) else (shares_net_fair.l0 k i0 h1 i1 h2)
end
def shares_net_fair.f (k:Nat) (e6:List Int) (c1:List (S45)):Option ((List (S23))):=if 0 ≤ (c1.length:Int) then (if ((c1.length:Int):Int).toNat ≤ 17592186044416 then (if ((c1.length:Int):Int).toNat ≤ 281474976710656 then (shares_net_fair.l0 k e6 c1 (List.replicate ((c1.length:Int):Int).toNat z23) (List.replicate ((c1.length:Int):Int).toNat false)) else (none)) else (none)) else (none)
theorem shares_net_fair.mono_l:∀ k,(∀ y0 y1 y2 y3,LeO (shares_net_fair.l0 k y0 y1 y2 y3) (shares_net_fair.l0 (k + 1) y0 y1 y2 y3)) ∧ (∀ y0 y1 y2 y3 y4 y5 y6 y7 y8,LeO (shares_net_fair.l1 k y0 y1 y2 y3 y4 y5 y6 y7 y8) (shares_net_fair.l1 (k + 1) y0 y1 y2 y3 y4 y5 y6 y7 y8)) ∧ (∀ y0 y1 y2 y3 y4 y5 y6 y7 y8,LeO (shares_net_fair.l2 k y0 y1 y2 y3 y4 y5 y6 y7 y8) (shares_net_fair.l2 (k + 1) y0 y1 y2 y3 y4 y5 y6 y7 y8))
 | 0=>⟨fun _ _ _ _ r h=>by simp [shares_net_fair.l0] at h,fun _ _ _ _ _ _ _ _ _ r h=>by simp [shares_net_fair.l1] at h,fun _ _ _ _ _ _ _ _ _ r h=>by simp [shares_net_fair.l2] at h⟩
 | k + 1=>by
  obtain ⟨A2,A3,A4⟩:=shares_net_fair.mono_l k
  refine ⟨?_,?_,?_⟩
  ·intro y0 y1 y2 y3
   unfold shares_net_fair.l0
   repeat' first
   | (with_reducible first | exact A2 _ _ _ _ | exact A3 _ _ _ _ _ _ _ _ _ | exact A4 _ _ _ _ _ _ _ _ _ | exact shares_compare.mono _ _ _ _ _ | exact shares_net_fair_1.mono _ _ _ _ _ _ | exact shares_net_has.mono _ _ _ _ _ | exact shares_times.mono _ _ _ _ | exact slices_Contains_bool_bool.mono _ _ _ | exact LeO.refl _ | exact LeO.none _ | refine LeO.ite ?_ ?_ | refine LeO.bind ?_ (fun _=>?_))
   | exact LeO.none _ | refine LeO.ite ?_ ?_ | refine LeO.bind ?_ (fun _=>?_)
  ·intro y0 y1 y2 y3 y4 y5 y6 y7 y8
   unfold shares_net_fair.l1
   repeat' first
   | (with_reducible first | exact A2 _ _ _ _ | exact A3 _ _ _ _ _ _ _ _ _ | exact A4 _ _ _ _ _ _ _ _ _ | exact shares_compare.mono _ _ _ _ _ | exact shares_net_fair_1.mono _ _ _ _ _ _ | exact shares_net_has.mono _ _ _ _ _ | exact shares_times.mono _ _ _ _ | exact slices_Contains_bool_bool.mono _ _ _ | exact LeO.refl _ | exact LeO.none _ | refine LeO.ite ?_ ?_ | refine LeO.bind ?_ (fun _=>?_))
   | exact LeO.none _ | refine LeO.ite ?_ ?_ | refine LeO.bind ?_ (fun _=>?_)
  intro y0 y1 y2 y3 y4 y5 y6 y7 y8
  unfold shares_net_fair.l2
  repeat' first
  | (with_reducible first | exact A2 _ _ _ _ | exact A3 _ _ _ _ _ _ _ _ _ | exact A4 _ _ _ _ _ _ _ _ _ | exact shares_compare.mono _ _ _ _ _ | exact shares_net_fair_1.mono _ _ _ _ _ _ | exact shares_net_has.mono _ _ _ _ _ | exact shares_times.mono _ _ _ _ | exact slices_Contains_bool_bool.mono _ _ _ | exact LeO.refl _ | exact LeO.none _ | refine LeO.ite ?_ ?_ | refine LeO.bind ?_ (fun _=>?_))
  | exact LeO.none _ | refine LeO.ite ?_ ?_ | refine LeO.bind ?_ (fun _=>?_)
theorem shares_net_fair.mono:∀ a0 a1 k,LeO (shares_net_fair.f k a0 a1) (shares_net_fair.f (k + 1) a0 a1):=by
 intro a0 a1 k
 obtain ⟨A2,A3,A4⟩:=shares_net_fair.mono_l k
 unfold shares_net_fair.f
 repeat' first
   | (with_reducible first | exact A2 _ _ _ _ | exact A3 _ _ _ _ _ _ _ _ _ | exact A4 _ _ _ _ _ _ _ _ _ | exact shares_compare.mono _ _ _ _ _ | exact shares_net_fair_1.mono _ _ _ _ _ _ | exact shares_net_has.mono _ _ _ _ _ | exact shares_times.mono _ _ _ _ | exact slices_Contains_bool_bool.mono _ _ _ | exact LeO.refl _ | exact LeO.none _ | refine LeO.ite ?_ ?_ | refine LeO.bind ?_ (fun _=>?_))
   | exact LeO.none _ | refine LeO.ite ?_ ?_ | refine LeO.bind ?_ (fun _=>?_)
theorem shares_net_fair.calls (k:Nat) (j8:Option Addr) (j9:Nat) (e6:List Int) (l7:Option Addr) (l5:Nat) (c1:List (S45)) (r:List (S23)) (w:World) (r7:Kd.C (Kd.int .i64) w j8 e6.length e6) (r8:e6.length ≤ j9) (r9:Kd.C k45 w l7 c1.length c1) (s0:c1.length ≤ l5) (h:shares_net_fair.f k e6 c1 = some r) :
  Calls Try.prog 71 #[.agg #[.slice j8 e6.length j9,.slice l7 c1.length l5]] w fun e w'=>∃ v0_:Value,e = .returned (v0_) ∧ Kd.R k23 23 w' w.heap.size (fun _=>True) v0_ r ∧ Below w.heap.size w w':=by
 have hu109:=Try.underlying109
 have hu23:=Try.underlying23
 have n3:=A_ r7
 have n4:=A_ r8
 clear r7 r8
 have m7:=A_ r9
 have n5:=A_ s0
 clear r9 s0
 have HB:=A_ (Below.refl w.heap.size w)
 have H:(if 0 ≤ (c1.length:Int) then (if ((c1.length:Int):Int).toNat ≤ 17592186044416 then (if ((c1.length:Int):Int).toNat ≤ 281474976710656 then (shares_net_fair.l0 k e6 c1 (List.replicate ((c1.length:Int):Int).toNat z23) (List.replicate ((c1.length:Int):Int).toNat false)) else (none)) else (none)) else (none)) = some r:=h
 clear h
 replace H:=gd H
 obtain ⟨c2,H⟩:=H
 have c2b0:=eq_true c2
 have c2b1:=decide_eq_true c2
 clear c2
 replace H:=gd H
 obtain ⟨c3,H⟩:=H
 have c3b0:=eq_true c3
 have c3b1:=decide_eq_true c3
 clear c3
 obtain ⟨r1,p7⟩:∃ y_:List (S23),y_ = (List.replicate ((c1.length:Int):Int).toNat z23):=⟨_,rfl⟩
 rw [← p7] at H
 have s1:=A_ p7
 clear p7
 replace H:=gd H
 obtain ⟨c4,H⟩:=H
 have c4b0:=eq_true c4
 have c4b1:=decide_eq_true c4
 clear c4
 obtain ⟨r2,p8⟩:∃ y_:List Bool,y_ = (List.replicate ((c1.length:Int):Int).toNat false):=⟨_,rfl⟩
 rw [← p8] at H
 have s2:=A_ p8
 clear p8
 have H':=A_ H
 clear H
 go_enter Try.func71,Try.ntmps71
 go_wp2_with (first | ((with_reducible refine gate_dst (N:=1) rfl ?_);refine bx 1 #[.slice j8 e6.length j9,.slice l7 c1.length l5] 109 ?_;intro e7 hg w5 hbox hb;have b2:=A_ hbox;have A5:=gw hg HB;have GE242:=A5;replace HB:=bB HB hb;clear hb hbox hg;have V8:w5.cell? ⟨e7,0,none⟩ = some (.slice j8 e6.length j9):=cz b2 0;have V9:w5.cell? ⟨e7,1,none⟩ = some (.slice l7 c1.length l5):=cz b2 1;have W0:=blk_frozen b2.out 0;have W1:=blk_frozen b2.out 1) | ((with_reducible refine gate_dst (N:=15) rfl ?_);refine Kd.R_make k23 _ 23 rfl (N:=15) rfl 35 _ _ rfl (c1.length:Int) rfl rfl Try.underlying35 (.agg #[(.int .i64 0),(.int .i64 0)]) 16 info23 rfl (by decide) (by omega) z23 (ok:=fun _=>True) (okp:=fun _=>True) (k23_mkM _ _ _ z23 ) (fun _ hk=>hk) trivial (of_decide_eq_true (by assumption)) (Nat.le_trans (Nat.mul_le_mul_right _ (of_decide_eq_true (by assumption):(c1.length:Int).toNat ≤ 17592186044416)) (by omega)) (Below.refl _ _) (Nat.le_refl _) ?_;intro v244 w7 A6 hb hg_ hnew_;clear hg_ hnew_;(first | rw [← s1.out] at A6 | (simp only [Int.reduceToNat] at A6;rw [← s1.out] at A6));have m1:=A_ (Kd.R_lower A6 (below_size (bl HB)));replace b2:=kB b2 hb;replace HB:=bB HB hb;clear hb A6) | ((with_reducible refine gate_dst (N:=3) rfl ?_);refine bx 3 #[.slice none 0 0] 35 ?_;intro i5 hg w9 hbox hb;have b4:=A_ hbox;have A7:=gw hg HB;have GE246:=A7;have e2:=nl hg b2;have h3:=ng hg b2;replace m1:=rB m1 hb;replace b2:=kB b2 hb;replace HB:=bB HB hb;clear hb hbox hg;obtain ⟨t5,t6,W2⟩:=Kd.R_slice m1.out;subst W2;have hnb11:=h3.out;have hnc11:=e2.out;have K6:w9.cell? ⟨i5,0,none⟩ = some (.slice none 0 0):=cz b4 0;have K7:=blk_frozen b4.out 0;have K8:w9.cell? ⟨e7,0,none⟩ = some (.slice j8 e6.length j9):=cz b2 0;have K9:w9.cell? ⟨e7,1,none⟩ = some (.slice l7 c1.length l5):=cz b2 1;have L0:=blk_frozen b2.out 0;have L1:=blk_frozen b2.out 1) | ((with_reducible refine gate_dst (N:=19) rfl ?_);refine Kd.R_make Kd.bool _ 4 rfl (N:=19) rfl 115 _ _ rfl (c1.length:Int) rfl rfl Try.underlying115 (.bool false) 1 info4 rfl (by decide) (by omega) false (ok:=fun _=>True) (okp:=fun _=>True) rfl (fun _ hk=>hk) trivial (of_decide_eq_true (by assumption)) (Nat.le_trans (Nat.mul_le_mul_right _ (of_decide_eq_true (by assumption):(c1.length:Int).toNat ≤ 281474976710656)) (by omega)) (Below.refl _ _) (Nat.le_refl _) ?_;intro v248 w14 p9 hb hg_ hnew_;clear hg_ hnew_;(first | rw [← s2.out] at p9 | (simp only [Int.reduceToNat] at p9;rw [← s2.out] at p9));have o7:=A_ (Kd.R_lower p9 (below_size (bl HB)));replace m1:=A_ (Kd.R_below (by exact (Kd.R_mono (Kd.R_far (p:=⟨i5,0,none⟩) (Kd.R_types m1.out b4.out (by decide)) (fun _ hk=>hk.2) (.slice t5 r1.length t6)) (fun _ h_=>h_.1))) hb);replace b2:=kB b2 hb;replace b4:=A_ (blk_below (g:=i5) (o:=.cells #[.slice t5 r1.length t6] 35 (0,0)) (by refine blk_put (cs:=#[.slice none 0 0]) ?_ 0 _ rfl;exact b4.out) hb);replace HB:=bB HB hb;clear hb p9) | ((with_reducible refine gate_dst (N:=4) rfl ?_);refine bx 4 #[.slice none 0 0] 115 ?_;intro i2 hg w16 hbox hb;have b3:=A_ hbox;have A8:=gw hg HB;have GE250:=A8;have e0:=nl hg b2;have h4:=ng hg b2;have h5:=nl hg b4;have e5:=ng hg b4;replace m1:=rB m1 hb;replace o7:=rB o7 hb;replace b2:=kB b2 hb;replace b4:=kB b4 hb;replace HB:=bB HB hb;clear hb hbox hg;obtain ⟨t7,t8,W3⟩:=Kd.R_slice o7.out;subst W3;have hnb18:=h4.out;have hnc18:=e0.out;have hnb19:=e5.out;have hnc19:=h5.out;have L2:w16.cell? ⟨i2,0,none⟩ = some (.slice none 0 0):=cz b3 0;have L3:=blk_frozen b3.out 0))
 go_loopg [] k (fun kq w'=>∃ (d2:List (S23)) (b7:List Bool) (e4:Value) (i4:Value),Aside0 (shares_net_fair.l0 kq e6 c1 d2 b7 = some r) ∧ Aside0 (kq ≤ k) ∧ Aside0 (Kd.R k23 23 w' w.heap.size (fun _=>True) e4 d2) ∧ Aside0 (Kd.R Kd.bool 4 w' w.heap.size (fun _=>True) i4 b7) ∧ Aside0 (w'.heap[e7]? = some (.cells #[(.slice j8 e6.length j9),(.slice l7 c1.length l5)] 109 (0,0))) ∧ Aside0 (w'.heap[i5]? = some (.cells #[e4] 35 (0,0))) ∧ Aside0 (w'.heap[i2]? = some (.cells #[i4] 115 (0,0))) ∧ Aside0 (Below w.heap.size w w'))
 case atStart=>exact ⟨(r1),(r2),(.slice t5 r1.length t6),(.slice t7 r2.length t8),H',⟨Nat.le_refl _⟩,⟨by exact Kd.R_mono (Kd.R_far (p:=⟨i2,0,none⟩) (Kd.R_types m1.out b3.out (by decide)) (fun _ hk=>hk.2) (.slice t7 r2.length t8)) (fun _ hk=>trivial)⟩,⟨by exact Kd.R_mono (Kd.R_far (p:=⟨i2,0,none⟩) (Kd.R_types o7.out b3.out (by decide)) (fun _ hk=>hk.2) (.slice t7 r2.length t8)) (fun _ hk=>trivial)⟩,⟨by refine blk_far ?_ e0.out _;exact b2.out⟩,⟨by refine blk_far ?_ h5.out _;exact b4.out⟩,⟨by refine blk_put (cs:=#[.slice none 0 0]) ?_ 0 _ rfl;exact b3.out⟩,⟨bl HB⟩⟩
 case round =>
  clear H'
  obtain ⟨d2,b7,e4,i4,HA,o1,b0,b1,b2,b4,b3,HB⟩:=hrel
  cases gk with
  | zero=>exact absurd HA.out (by simp [shares_net_fair.l0])
  | succ k1 =>
   have H:=HA.out
   clear HA
   simp only [shares_net_fair.l0] at H
   replace H:=Option.bind_eq_some_iff.mp H
   obtain ⟨r0,A9,H⟩:=H
   replace H:(if r0 = true then (shares_net_fair.l1 k1 (-1) (e6.length:Int) 0 e6 c1 d2 b7 0 0) else (some d2)) = some r:=H
   have A21:=A_ A9
   clear A9
   by_cases L4:r0 = true
   case neg =>
    replace L4:=Bool.eq_false_iff.mpr L4
    subst L4
    rw [if_neg (show ¬ (false = true) by decide)] at H
    obtain rfl:=Option.some.inj H
    have W4:=h4.out
    have W5:=e0.out
    have W6:=e5.out
    have W7:=h5.out
    have B0:wr.cell? ⟨i2,0,none⟩ = some (i4):=cz b3 0
    have C0:=blk_frozen b3.out 0
    obtain ⟨C1,C2,C3⟩:=Kd.R_slice b1.out
    subst C3
    go_wp2_with (first | ((with_reducible refine gate_callee (f:=105) rfl ?_);refine gL (some 22) Try.func105 #[.slice C1 b7.length C2,.bool false] ?_;(with_reducible refine (slices_Contains_bool_bool.calls k1 _ _ b7 false false _ ?side1 ?side2 A21.out).mono ?_);(case side1=>repeat (first | exact (Kd.R_reads' b1.out).2.2 | (with_reducible refine Kd.C_alloc ?_ _) | (with_reducible refine Kd.C_drewN ?_ _) | (with_reducible refine Kd.C_drew ?_)));(case side2=>exact (Kd.R_reads' b1.out).2.1);rintro e w' ⟨rfl,⟨nd,rfl⟩⟩;refine ⟨_,rfl,?_⟩;have W8:=h3.out;have W9:=e2.out;have C4:wr.cell? ⟨i5,0,none⟩ = some (e4):=cz b4 0;have C5:=blk_frozen b4.out 0))
    go_ret
    exact ⟨_,rfl,by exact b0.out,bl HB⟩
   subst L4
   rw [if_pos rfl] at H
   have H':=A_ H
   clear H
   have hnb23:=h4.out
   have hnc23:=e0.out
   have hnb24:=e5.out
   have hnc24:=h5.out
   have L5:wr.cell? ⟨i2,0,none⟩ = some (i4):=cz b3 0
   have L6:=blk_frozen b3.out 0
   obtain ⟨m2,m3,X0⟩:=Kd.R_slice b1.out
   subst X0
   go_wp2_with (first | ((with_reducible refine gate_callee (f:=105) rfl ?_);refine gL (some 22) Try.func105 #[.slice m2 b7.length m3,.bool false] ?_;(with_reducible refine (slices_Contains_bool_bool.calls k1 _ _ b7 false true _ ?side1 ?side2 A21.out).mono ?_);(case side1=>repeat (first | exact (Kd.R_reads' b1.out).2.2 | (with_reducible refine Kd.C_alloc ?_ _) | (with_reducible refine Kd.C_drewN ?_ _) | (with_reducible refine Kd.C_drew ?_)));(case side2=>exact (Kd.R_reads' b1.out).2.1);rintro e w' ⟨rfl,⟨nd,rfl⟩⟩;refine ⟨_,rfl,?_⟩;(try (rw [drewN_self wr];generalize hq_:World.drewN wr _ = wr;replace b0:Aside0 (Kd.R k23 23 wr w.heap.size (fun _=>True) e4 d2):=⟨by rw [← hq_];exact b0.out⟩;replace b1:Aside0 (Kd.R Kd.bool 4 wr w.heap.size (fun _=>True) (.slice m2 b7.length m3) b7):=⟨by rw [← hq_];exact b1.out⟩;replace b2:Aside0 (wr.heap[e7]? = some (.cells #[.slice j8 e6.length j9,.slice l7 c1.length l5] 109 (0,0))):=⟨by rw [← hq_];exact b2.out⟩;replace b4:Aside0 (wr.heap[i5]? = some (.cells #[e4] 35 (0,0))):=⟨by rw [← hq_];exact b4.out⟩;replace b3:Aside0 (wr.heap[i2]? = some (.cells #[.slice m2 b7.length m3] 115 (0,0))):=⟨by rw [← hq_];exact b3.out⟩;replace HB:Aside0 (Below w.heap.size w wr):=⟨by rw [← hq_];exact (bl HB)⟩;clear hq_))) | ((with_reducible refine gate_dst (N:=7) rfl ?_);refine bx 7 #[.int .i64 0,.int .i64 0] 23 ?_;intro d1 hg L7 hbox hb;have b5:=A_ hbox;have C6:=gw hg HB;have GE252:=C6;have d3:=nl hg b2;have e8:=ng hg b2;have d4:=nl hg b4;have e9:=ng hg b4;have d5:=nl hg b3;have h0:=ng hg b3;replace b0:=A_ (Kd.R_below (Kd.R_elderB b0.out d1 (Nat.le_of_eq hg.symm)) hb);replace b1:=rB b1 hb;replace b2:=kB b2 hb;replace b4:=kB b4 hb;replace b3:=kB b3 hb;replace HB:=bB HB hb;clear hb hbox hg;have hnb28:=e8.out;have hnc28:=d3.out;have hnb29:=e9.out;have hnc29:=d4.out;have hnb30:=h0.out;have hnc30:=d5.out;have L8:L7.cell? ⟨d1,0,none⟩ = some (.int .i64 0):=cz b5 0;have L9:L7.cell? ⟨d1,1,none⟩ = some (.int .i64 0):=cz b5 1;have M0:=blk_frozen b5.out 0;have M1:=blk_frozen b5.out 1;have hnb32:=e2.out;have hnc32:=h3.out;have M2:L7.cell? ⟨e7,0,none⟩ = some (.slice j8 e6.length j9):=cz b2 0;have M3:L7.cell? ⟨e7,1,none⟩ = some (.slice l7 c1.length l5):=cz b2 1;have M4:=blk_frozen b2.out 0;have M5:=blk_frozen b2.out 1))
   go_loopg [6,27] k1 (fun kq v6 v27 w'=>∃ (l9:Int) (i9:Int) (e1:Int) (d6:Int),v6 = .int .i64 l9 ∧ v27 = .int .i64 i9 ∧ Aside0 (shares_net_fair.l1 kq l9 (e6.length:Int) i9 e6 c1 d2 b7 e1 d6 = some r) ∧ Aside0 (kq ≤ k1) ∧ Aside0 (Kd.R k23 23 w' w.heap.size (fun k_=>k_ ≠ d1) e4 d2) ∧ Aside0 (Kd.R Kd.bool 4 w' w.heap.size (fun _=>True) (.slice m2 b7.length m3) b7) ∧ Aside0 (w'.heap[e7]? = some (.cells #[(.slice j8 e6.length j9),(.slice l7 c1.length l5)] 109 (0,0))) ∧ Aside0 (w'.heap[i5]? = some (.cells #[e4] 35 (0,0))) ∧ Aside0 (w'.heap[i2]? = some (.cells #[(.slice m2 b7.length m3)] 115 (0,0))) ∧ Aside0 (w'.heap[d1]? = some (.cells #[.int .i64 e1,.int .i64 d6] 23 (0,0))) ∧ Aside0 (Below w.heap.size w w'))
   case atStart=>exact ⟨((-1)),(0),(0),(0),rfl,rfl,H',⟨Nat.le_refl _⟩,⟨by exact Kd.R_mono (Kd.R_far (p:=⟨d1,1,none⟩) (Kd.R_far (p:=⟨d1,0,none⟩) (Kd.R_mono b0.out (fun k_ hk=>(⟨hk,hk.2⟩:_ ∧ k_ ≠ d1))) (fun _ hk=>hk.2) (.int .i64 0)) (fun _ hk=>hk.2) (.int .i64 0)) (fun _ hk=>hk.1.2)⟩,⟨by exact Kd.R_mono (Kd.R_far (p:=⟨d1,1,none⟩) (Kd.R_far (p:=⟨d1,0,none⟩) (Kd.R_types b1.out b5.out (by decide)) (fun _ hk=>hk.2) (.int .i64 0)) (fun _ hk=>hk.2) (.int .i64 0)) (fun _ hk=>trivial)⟩,⟨by refine blk_far ?_ d3.out _;refine blk_far ?_ d3.out _;exact b2.out⟩,⟨by refine blk_far ?_ d4.out _;refine blk_far ?_ d4.out _;exact b4.out⟩,⟨by refine blk_far ?_ d5.out _;refine blk_far ?_ d5.out _;exact b3.out⟩,⟨by refine blk_put (cs:=#[.int .i64 0,.int .i64 0]) ?_ 1 _ rfl;refine blk_put (cs:=#[.int .i64 0,.int .i64 0]) ?_ 0 _ rfl;exact b5.out⟩,⟨bl HB⟩⟩
   case round =>
    clear H'
    obtain ⟨l9,i9,e1,d6,rfl,rfl,HA,o2,b0,b1,b2,b4,b3,b5,HB⟩:=hrel
    cases gk with
    | zero=>exact absurd HA.out (by simp [shares_net_fair.l1])
    | succ k2 =>
     have H:=HA.out
     clear HA
     simp only [shares_net_fair.l1] at H
     by_cases z8:i9 < (e6.length:Int)
     case neg =>
      rw [if_neg z8] at H
      have C7:=decide_eq_false z8
      clear z8
      have H':=A_ H
      clear H
      have X1:=e2.out
      have X2:=h3.out
      have X3:=e0.out
      have X4:=h4.out
      have X5:=d3.out
      have X6:=e8.out
      have C8:wr.cell? ⟨e7,0,none⟩ = some (.slice j8 e6.length j9):=cz b2 0
      have C9:wr.cell? ⟨e7,1,none⟩ = some (.slice l7 c1.length l5):=cz b2 1
      have D0:=blk_frozen b2.out 0
      have D1:=blk_frozen b2.out 1
      go_wp2
      go_loopg [53] k2 (fun kq v53 w'=>∃ (b6:Int) (b8:List (S23)) (c0:List Bool) (d7:Int) (d8:Int) (e4:Value) (i4:Value),v53 = .int .i64 b6 ∧ Aside0 (shares_net_fair.l2 kq l9 (c1.length:Int) b6 e6 c1 b8 c0 d7 d8 = some r) ∧ Aside0 (kq ≤ k2) ∧ Aside0 (Kd.R k23 23 w' w.heap.size (fun k_=>k_ ≠ d1) e4 b8) ∧ Aside0 (Kd.R Kd.bool 4 w' w.heap.size (fun _=>True) i4 c0) ∧ Aside0 (w'.heap[e7]? = some (.cells #[(.slice j8 e6.length j9),(.slice l7 c1.length l5)] 109 (0,0))) ∧ Aside0 (w'.heap[i5]? = some (.cells #[e4] 35 (0,0))) ∧ Aside0 (w'.heap[i2]? = some (.cells #[i4] 115 (0,0))) ∧ Aside0 (w'.heap[d1]? = some (.cells #[.int .i64 d7,.int .i64 d8] 23 (0,0))) ∧ Aside0 (Below w.heap.size w w'))
      case atStart=>exact ⟨(0),(d2),(b7),(e1),(d6),(e4),(.slice m2 b7.length m3),rfl,H',⟨Nat.le_refl _⟩,⟨by exact b0.out⟩,⟨by exact b1.out⟩,⟨by exact b2.out⟩,⟨by exact b4.out⟩,⟨by exact b3.out⟩,⟨by exact b5.out⟩,⟨bl HB⟩⟩
      case round =>
       clear H'
       obtain ⟨b6,b8,c0,d7,d8,e4,i4,rfl,HA,s3,b0,b1,b2,b4,b3,b5,HB⟩:=hrel
       cases gk with
       | zero=>exact absurd HA.out (by simp [shares_net_fair.l2])
       | succ k3 =>
        have H:=HA.out
        clear HA
        simp only [shares_net_fair.l2] at H
        by_cases p4:b6 < (c1.length:Int)
        case neg =>
         rw [if_neg p4] at H
         have t9:=decide_eq_false p4
         clear p4
         have H':=A_ H
         clear H
         go_wp2
         go_roundg k3
         case measure=>have:=o1.out;have:=o2.out;have:=s3.out;omega
         case rel=>exact ⟨(b8),(c0),(e4),(i4),H',⟨by have:=o1.out;have:=o2.out;have:=s3.out;omega⟩,⟨by exact Kd.R_mono b0.out (fun _ hk=>trivial)⟩,⟨by exact b1.out⟩,⟨by exact b2.out⟩,⟨by exact b4.out⟩,⟨by exact b3.out⟩,⟨bl HB⟩⟩
        rw [if_pos p4] at H
        have t9:=decide_eq_true p4
        clear p4
        replace H:=gd H
        obtain ⟨D2,H⟩:=H
        have X7:=decide_eq_true D2
        clear D2
        replace H:=gd H
        obtain ⟨D3,H⟩:=H
        have X8:=decide_eq_true D3
        clear D3
        obtain ⟨s4,o3⟩:∃ b_:Bool,b_ = (rdOf false c0 b6):=⟨_,rfl⟩
        replace H:(if s4 = true then (shares_net_fair.l2 k3 l9 (c1.length:Int) (wrap64 (b6 + 1)) e6 c1 b8 c0 d7 d8) else ((shares_net_has.f k3 e6 c1 b6 l9).bind fun p3=>(if p3 = true then (if b6 < (c1.length:Int) then ((shares_times.f k3 d7 d8 ((rd_T45 c1 b6).f0)).bind fun m0=>(if b6 < (b8.length:Int) then (shares_net_fair.l2 k3 l9 (c1.length:Int) (wrap64 (b6 + 1)) e6 c1 (b8.set (b6:Int).toNat (⟨m0.1,m0.2⟩:S23)) (c0.set (b6:Int).toNat true) d7 d8) else (none))) else (none)) else (shares_net_fair.l2 k3 l9 (c1.length:Int) (wrap64 (b6 + 1)) e6 c1 b8 c0 d7 d8)))) = some r:=by rw [← o3] at H;exact H
        have o4:=A_ o3
        clear o3
        by_cases r3:s4 = true
        ·subst r3
         rw [if_pos rfl] at H
         have H':=A_ H
         clear H
         have X9:=h4.out
         have Y0:=e0.out
         have Y1:=e5.out
         have Y2:=h5.out
         have Y3:=d5.out
         have Y4:=h0.out
         have D4:wr.cell? ⟨i2,0,none⟩ = some (i4):=cz b3 0
         have D5:=blk_frozen b3.out 0
         obtain ⟨Ao132,D6,D7⟩:=Kd.R_slice b1.out
         subst D7
         have m8:0 ≤ (b6:Int):=of_decide_eq_true (by assumption)
         have m9:b6 < (c0.length:Int):=of_decide_eq_true (by assumption)
         obtain ⟨n0,q0,l8⟩:=Kd.at_bool (Kd.R_reads' b1.out).2.2 b6 m8 m9
         (try rw [← o4.out] at l8)
         cases q0
         replace m8:=eq_true m8
         replace m9:=eq_true m9
         have Y5:=h3.out
         have Y6:=e2.out
         have Y7:=d4.out
         have Y8:=e9.out
         have D8:wr.cell? ⟨i5,0,none⟩ = some (e4):=cz b4 0
         have D9:=blk_frozen b4.out 0
         obtain ⟨E0,E1,E2⟩:=Kd.R_slice b0.out
         subst E2
         go_wp2
         go_roundg k3
         case measure=>have:=o1.out;have:=o2.out;have:=s3.out;omega
         case rel=>exact ⟨(wrap64 (b6 + 1)),(b8),(c0),(d7),(d8),(.slice E0 b8.length E1),(.slice (some n0) c0.length D6),rfl,H',⟨by have:=o1.out;have:=o2.out;have:=s3.out;omega⟩,⟨by exact b0.out⟩,⟨by exact b1.out⟩,⟨by exact b2.out⟩,⟨by exact b4.out⟩,⟨by exact b3.out⟩,⟨by exact b5.out⟩,⟨bl HB⟩⟩
        replace r3:=Bool.eq_false_iff.mpr r3
        subst r3
        rw [if_neg (show ¬ (false = true) by decide)] at H
        replace H:=Option.bind_eq_some_iff.mp H
        obtain ⟨p3,s5,H⟩:=H
        replace H:(if p3 = true then (if b6 < (c1.length:Int) then ((shares_times.f k3 d7 d8 ((rd_T45 c1 b6).f0)).bind fun m0=>(if b6 < (b8.length:Int) then (shares_net_fair.l2 k3 l9 (c1.length:Int) (wrap64 (b6 + 1)) e6 c1 (b8.set (b6:Int).toNat (⟨m0.1,m0.2⟩:S23)) (c0.set (b6:Int).toNat true) d7 d8) else (none))) else (none)) else (shares_net_fair.l2 k3 l9 (c1.length:Int) (wrap64 (b6 + 1)) e6 c1 b8 c0 d7 d8)) = some r:=H
        have E3:=A_ s5
        clear s5
        by_cases r4:p3 = true
        case neg =>
         replace r4:=Bool.eq_false_iff.mpr r4
         subst r4
         rw [if_neg (show ¬ (false = true) by decide)] at H
         have H':=A_ H
         clear H
         have Y9:=h4.out
         have Z0:=e0.out
         have Z1:=e5.out
         have Z2:=h5.out
         have Z3:=d5.out
         have Z4:=h0.out
         have E4:wr.cell? ⟨i2,0,none⟩ = some (i4):=cz b3 0
         have E5:=blk_frozen b3.out 0
         obtain ⟨Ao167,s6,E6⟩:=Kd.R_slice b1.out
         subst E6
         have m8:0 ≤ (b6:Int):=of_decide_eq_true (by assumption)
         have m9:b6 < (c0.length:Int):=of_decide_eq_true (by assumption)
         obtain ⟨n0,q0,l8⟩:=Kd.at_bool (Kd.R_reads' b1.out).2.2 b6 m8 m9
         (try rw [← o4.out] at l8)
         cases q0
         replace m8:=eq_true m8
         replace m9:=eq_true m9
         have Z5:=e2.out
         have Z6:=h3.out
         have Z7:=d3.out
         have Z8:=e8.out
         have E7:wr.cell? ⟨e7,0,none⟩ = some (.slice j8 e6.length j9):=cz b2 0
         have E8:wr.cell? ⟨e7,1,none⟩ = some (.slice l7 c1.length l5):=cz b2 1
         have E9:=blk_frozen b2.out 0
         have F0:=blk_frozen b2.out 1
         go_wp2_with (first | (go_at_call 104;(with_reducible refine (shares_net_has.calls k3 _ _ e6 _ _ c1 b6 l9 false _ ?side1 ?side2 ?side3 ?side4 E3.out).mono ?_);(case side1=>exact cB n3 HB);(case side2=>exact n4.out);(case side3=>exact cB m7 HB);(case side4=>exact n5.out);rintro e F1 ⟨rfl,hb⟩;replace b0:=rB b0 hb;replace b1:=rB b1 hb;replace b2:=kB b2 hb;replace b4:=kB b4 hb;replace b3:=kB b3 hb;replace b5:=kB b5 hb;replace HB:=bB HB hb;(try clear hb);have F2:F1.cell? ⟨i2,0,none⟩ = some (.slice (some n0) c0.length s6):=cz b3 0;have F3:=blk_frozen b3.out 0;have Z9:=d4.out;have ba0:=e9.out;have F4:F1.cell? ⟨i5,0,none⟩ = some (e4):=cz b4 0;have F5:=blk_frozen b4.out 0;obtain ⟨F6,F7,F8⟩:=Kd.R_slice b0.out;subst F8))
         go_roundg k3
         case measure=>have:=o1.out;have:=o2.out;have:=s3.out;omega
         case rel=>exact ⟨(wrap64 (b6 + 1)),(b8),(c0),(d7),(d8),(.slice F6 b8.length F7),(.slice (some n0) c0.length s6),rfl,H',⟨by have:=o1.out;have:=o2.out;have:=s3.out;omega⟩,⟨by exact b0.out⟩,⟨by exact b1.out⟩,⟨by exact b2.out⟩,⟨by exact b4.out⟩,⟨by exact b3.out⟩,⟨by exact b5.out⟩,⟨bl HB⟩⟩
        subst r4
        rw [if_pos rfl] at H
        replace H:=gd H
        obtain ⟨F9,H⟩:=H
        have ba1:=decide_eq_true F9
        clear F9
        replace H:=Option.bind_eq_some_iff.mp H
        obtain ⟨⟨p5,p6⟩,A1400,H⟩:=H
        dsimp only at H
        have ba2:=A_ A1400
        clear A1400
        obtain ⟨G0,q1⟩:∃ y_:List Bool,y_ = (c0.set (b6:Int).toNat true):=⟨_,rfl⟩
        rw [← q1] at H
        have G1:=A_ q1
        clear q1
        replace H:=gd H
        obtain ⟨G2,H⟩:=H
        have ba3:=decide_eq_true G2
        clear G2
        obtain ⟨ba4,q2⟩:∃ y_:List (S23),y_ = (b8.set (b6:Int).toNat (⟨p5,p6⟩:S23)):=⟨_,rfl⟩
        rw [← q2] at H
        have G3:=A_ q2
        clear q2
        have H':=A_ H
        clear H
        have ba5:=h4.out
        have ba6:=e0.out
        have ba7:=e5.out
        have ba8:=h5.out
        have ba9:=d5.out
        have bb0:=h0.out
        have G4:wr.cell? ⟨i2,0,none⟩ = some (i4):=cz b3 0
        have G5:=blk_frozen b3.out 0
        obtain ⟨Ao148,n8,G6⟩:=Kd.R_slice b1.out
        subst G6
        have m8:0 ≤ (b6:Int):=of_decide_eq_true (by assumption)
        have m9:b6 < (c0.length:Int):=of_decide_eq_true (by assumption)
        obtain ⟨n0,q0,l8⟩:=Kd.at_bool (Kd.R_reads' b1.out).2.2 b6 m8 m9
        (try rw [← o4.out] at l8)
        cases q0
        replace m8:=eq_true m8
        replace m9:=eq_true m9
        have bb1:=e2.out
        have bb2:=h3.out
        have bb3:=d3.out
        have bb4:=e8.out
        have G7:wr.cell? ⟨e7,0,none⟩ = some (.slice j8 e6.length j9):=cz b2 0
        have G8:wr.cell? ⟨e7,1,none⟩ = some (.slice l7 c1.length l5):=cz b2 1
        have G9:=blk_frozen b2.out 0
        have H0:=blk_frozen b2.out 1
        try go_wp2_with (first | (go_at_call 104;(with_reducible refine (shares_net_has.calls k3 _ _ e6 _ _ c1 b6 l9 true _ ?side1 ?side2 ?side3 ?side4 E3.out).mono ?_);(case side1=>exact cB n3 HB);(case side2=>exact n4.out);(case side3=>exact cB m7 HB);(case side4=>exact n5.out);rintro e x0 ⟨rfl,hb⟩;replace b0:=rB b0 hb;replace b1:=rB b1 hb;replace b2:=kB b2 hb;replace b4:=kB b4 hb;replace b3:=kB b3 hb;replace b5:=kB b5 hb;replace HB:=bB HB hb;(try clear hb);have H1:x0.cell? ⟨i2,0,none⟩ = some (.slice (some n0) c0.length n8):=cz b3 0;have H2:=blk_frozen b3.out 0;have bb5:=d4.out;have bb6:=e9.out;have H3:x0.cell? ⟨i5,0,none⟩ = some (e4):=cz b4 0;have H4:=blk_frozen b4.out 0;obtain ⟨q3,o8,H5⟩:=Kd.R_slice b0.out;subst H5))
        replace b0:=rD b0
        replace b1:=rD b1
        replace b2:=kD b2
        replace b4:=kD b4
        replace b3:=kD b3
        replace b5:=kD b5
        replace HB:=bD HB
        have x1:0 ≤ (b6:Int):=of_decide_eq_true (by assumption)
        have x2:b6 < (c1.length:Int):=of_decide_eq_true (by assumption)
        obtain ⟨n9,x3,x4,bb7,m4,m5,o9,p0⟩:=at_T45 m7.out b6 x1 x2
        have n6:=m5
        have n7:=m4
        cases bb7
        replace m4:=cT HB m4
        replace m5:=cT HB m5
        have r5:=A_ p0
        have M6:=A_ o9
        clear p0 o9
        replace x1:=eq_true x1
        replace x2:=eq_true x2
        refine start_ (n:=16) (S:=fun w'=>w'.cell? ⟨i2,0,none⟩ = some (.slice (some n0) c0.length n8) ∧ w'.cell? ⟨d1,0,none⟩ = some (.int .i64 d7) ∧ w'.cell? ⟨d1,1,none⟩ = some (.int .i64 d8) ∧ w'.cell? ⟨e7,0,none⟩ = some (.slice j8 e6.length j9) ∧ w'.cell? ⟨e7,1,none⟩ = some (.slice (some n9) c1.length l5) ∧ w'.cell? (n9.add ((b6).toNat * 2)) = some (.int .i64 ((rd_T45 c1 b6).f0)) ∧ w'.cell? ⟨(n9.add ((b6).toNat * 2)).block,(n9.add ((b6).toNat * 2)).off + 1,none⟩ = some (.slice x3 ((rd_T45 c1 b6).f1).length x4) ∧ w'.cell? ⟨i5,0,none⟩ = some (.slice q3 b8.length o8)) (ds:=[15]) (ba 16 0) (by kernel_rfl) rfl rfl ⟨cz b3 0,cz b5 0,cz b5 1,cz b2 0,cz b2 1,(cT HB n7),(cT HB n6),cz b4 0⟩ (fun hHeld=>?_)
        generalize x0.drew = w157 at b0 b1 b2 b4 b3 b5 HB r5 m4 m5 hHeld ⊢
        refine pr 3 70 8 ?_
        refine tr 2 69 12 hHeld ?_
        refine pr 1 68 14 ?_
        refine pr 5 72 46 ?_
        refine pr 7 74 174 ?_
        refine tr 0 67 175 hHeld ?_
        refine tr 4 71 191 hHeld ?_
        refine tr 6 73 255 hHeld ?_
        refine pr 8 75 511 ?_
        refine pr 9 76 1023 ?_
        refine tr 10 77 2047 hHeld ?_
        refine os 11 78 4095 (fun K hK=>?_)
        refine gq Try.func106 #[.agg #[.int .i64 d7,.int .i64 d8],.int .i64 ((rd_T45 c1 b6).f0)] ?_
        with_reducible refine (shares_times.calls k3 d7 d8 ((rd_T45 c1 b6).f0) p5 p6 _ ba2.out).mono ?_
        rintro e o0 ⟨rfl,hb⟩
        refine ⟨_,rfl,?_⟩
        replace b0:=rB b0 hb
        replace b1:=rB b1 hb
        replace b2:=kB b2 hb
        replace b4:=kB b4 hb
        replace b3:=kB b3 hb
        replace b5:=kB b5 hb
        replace HB:=bB HB hb
        (try clear hb)
        have x5:0 ≤ (b6:Int):=of_decide_eq_true (by assumption)
        have x7:(b6:Int) < ((c0.length:Int):Int):=of_decide_eq_true (by assumption)
        obtain ⟨l6,co141,s7,s8,H6,cl141,s9⟩:=Kd.R_form b1.out (by omega)
        (first | cases s7 | (injection s7 with ea_ en_ ec_;(first | subst ea_ | (injection ea_ with ea_;subst ea_));subst ec_;clear en_))
        have GB141:=A_ s8
        have H7:=A_ s9
        clear s8 H6 s9
        (first | simp only [add_plain] at l8 | skip)
        obtain ⟨M7,M8⟩:=Kd.R_celln false b1.out (b6:Int) x5 x7
        replace x5:=eq_true x5
        replace x7:=eq_true x7
        have q4:=Kd.R_putn b1.out (b6:Int) true
        rw [← G1.out] at q4
        have H8:=A_ q4
        clear q4
        refine hK.out _ _ ⟨cz b3 0,cz b5 0,cz b5 1,cz b2 0,cz b2 1,(cT HB n7),(cT HB n6),cz b4 0⟩ (fun hHeld=>?_)
        clear hK K
        refine nq 78 ?_
        refine pr 12 79 8191 ?_
        refine one_ (i:=13) (N:=none) (ba 16 16383) rfl rfl (by kernel_rfl) (by decide) (fun K hK=>?_)
        refine skip_ (w1:=?_) (by rfl) rfl ?_ ?_
        rotate_left
        ·go_simp
         rfl
        have x8:Aside0 (Kd.R k23 23 (o0.setCell ⟨l6,(b6:Int).toNat,none⟩ (.bool true)) w.heap.size (fun k_=>k_ ≠ d1) (.slice q3 b8.length o8) b8):=⟨by exact Kd.R_mono (Kd.R_far (p:=⟨l6,(b6:Int).toNat,none⟩) (Kd.R_types b0.out H7.out (by decide)) (fun _ hk=>hk.2) (.bool true)) (fun _ hk=>hk.1)⟩
        have x9:Aside0 (Kd.R Kd.bool 4 (o0.setCell ⟨l6,(b6:Int).toNat,none⟩ (.bool true)) w.heap.size (fun _=>True) (.slice (some ⟨l6,0,none⟩) c0.length n8) G0):=⟨by exact H8.out⟩
        have y9:Aside0 ((o0.setCell ⟨l6,(b6:Int).toNat,none⟩ (.bool true)).heap[e7]? = some (.cells #[.slice j8 e6.length j9,.slice (some n9) c1.length l5] 109 (0,0))):=⟨by refine blk_far ?_ (by have h_:=Kd.R_ne b1.out b2.out (by decide);intro e_;exact h_ (by rw [e_];rfl)) _;exact b2.out⟩
        have z0:Aside0 ((o0.setCell ⟨l6,(b6:Int).toNat,none⟩ (.bool true)).heap[i5]? = some (.cells #[.slice q3 b8.length o8] 35 (0,0))):=⟨by refine blk_far ?_ (by have h_:=Kd.R_ne b1.out b4.out (by decide);intro e_;exact h_ (by rw [e_];rfl)) _;exact b4.out⟩
        have z1:Aside0 ((o0.setCell ⟨l6,(b6:Int).toNat,none⟩ (.bool true)).heap[i2]? = some (.cells #[.slice (some ⟨l6,0,none⟩) c0.length n8] 115 (0,0))):=⟨by refine blk_far ?_ (by have h_:=Kd.R_ne b1.out b3.out (by decide);intro e_;exact h_ (by rw [e_];rfl)) _;exact b3.out⟩
        have z2:Aside0 ((o0.setCell ⟨l6,(b6:Int).toNat,none⟩ (.bool true)).heap[d1]? = some (.cells #[.int .i64 d7,.int .i64 d8] 23 (0,0))):=⟨by refine blk_far ?_ (by have h_:=Kd.R_ne b1.out b5.out (by decide);intro e_;exact h_ (by rw [e_];rfl)) _;exact b5.out⟩
        have z3:Aside0 (Below w.heap.size w (o0.setCell ⟨l6,(b6:Int).toNat,none⟩ (.bool true))):=⟨bl HB⟩
        generalize (o0.setCell ⟨l6,(b6:Int).toNat,none⟩ (.bool true)) = w160 at x8 x9 y9 z0 z1 z2 z3 ⊢
        have b0:=x8
        have b1:=x9
        have b2:=y9
        have b4:=z0
        have b3:=z1
        have b5:=z2
        have HB:=z3
        clear x8 x9 y9 z0 z1 z2 z3
        refine hK.out _ _ ⟨cz b3 0,cz b5 0,cz b5 1,cz b2 0,cz b2 1,(cT HB n7),(cT HB n6),cz b4 0⟩ (fun hHeld=>?_)
        clear hK K
        have z4:0 ≤ (b6:Int):=of_decide_eq_true (by assumption)
        have z5:(b6:Int) < ((b8.length:Int):Int):=of_decide_eq_true (by assumption)
        obtain ⟨n1,co143,t0,t1,H9,cl143,t2⟩:=Kd.R_form b0.out (by omega)
        (first | cases t0 | (injection t0 with ea_ en_ ec_;(first | subst ea_ | (injection ea_ with ea_;subst ea_));subst ec_;clear en_))
        have GB143:=A_ t1
        have I0:=A_ t2
        clear t1 H9 t2
        obtain ⟨ce143,z6,t3,o5,o6⟩:=Kd.R_elem b0.out z23 (b6:Int) z4 z5
        obtain rfl:=k23_openM t3
        have M9:World.cell? _ ⟨n1,(b6:Int).toNat * 2,none⟩ = some (.int .i64 ((rd_T23 b8 b6).f0)):=o5 0 _ rfl
        have N0:World.cell? _ ⟨n1,(b6:Int).toNat * 2 + 1,none⟩ = some (.int .i64 ((rd_T23 b8 b6).f1)):=o5 1 _ rfl
        have N1:World.frozen? _ ⟨n1,(b6:Int).toNat * 2,none⟩ = false:=o6 0
        have N2:World.frozen? _ ⟨n1,(b6:Int).toNat * 2 + 1,none⟩ = false:=o6 1
        clear z6 o5 o6 t3
        replace z4:=eq_true z4
        replace z5:=eq_true z5
        obtain ⟨ce162,q5,t4,q6,z7⟩:=Kd.R_elem b0.out z23 (b6:Int) (of_decide_eq_true (by assumption)) (by have h_:(b6:Int) < ((b8.length:Int):Int):=of_decide_eq_true (by assumption);first | exact h_ | (have e_:=(Kd.R_reads' b0.out).1;omega) | simpa using h_)
        obtain rfl:=k23_openM t4
        have q7:=(Kd.R_seg b0.out (b6:Int) (of_decide_eq_true (by assumption)) (by have h_:(b6:Int) < ((b8.length:Int):Int):=of_decide_eq_true (by assumption);first | exact h_ | (have e_:=(Kd.R_reads' b0.out).1;omega) | simpa using h_) (seg:=[.int .i64 p5,.int .i64 p6]) (j:=0) q5 q6 (show 2 ≤ 2 from by decide) (x':=(⟨p5,p6⟩:S23)) (k23_mkM _ _ _ (⟨p5,p6⟩:S23) ) (fun _ hk=>hk)).1
        rw [← G3.out] at q7
        have I1:=A_ q7
        clear q5 q6 z7 t4 q7
        refine pr 14 80 32767 ?_
        refine last_ (i:=15) (N:=none) (ba 16 65535) rfl rfl (by kernel_rfl) (by decide) (fun K hK=>?_)
        refine skip_ (w1:=?_) (by rfl) rfl ?_ ?_
        rotate_left
        ·go_simp
         rfl
        refine hK.out _ _ ?_
        clear hK K
        refine done_ (by kernel_rfl) ?_
        try go_wp2
        go_roundg k3
        case measure=>have:=o1.out;have:=o2.out;have:=s3.out;omega
        case rel=>exact ⟨(wrap64 (b6 + 1)),(ba4),(G0),(d7),(d8),(.slice (some ⟨n1,0,none⟩) b8.length o8),(.slice (some ⟨l6,0,none⟩) c0.length n8),rfl,H',⟨by have:=o1.out;have:=o2.out;have:=s3.out;omega⟩,⟨by exact I1.out⟩,⟨by exact Kd.R_mono (Kd.R_far (p:=⟨n1,(b6:Int).toNat * 2 + 1,none⟩) (Kd.R_far (p:=⟨n1,(b6:Int).toNat * 2,none⟩) (Kd.R_types b1.out I0.out (by decide)) (fun _ hk=>hk.2) (.int .i64 p5)) (fun _ hk=>hk.2) (.int .i64 p6)) (fun _ hk=>trivial)⟩,⟨by refine blk_far ?_ (by have h_:=Kd.R_ne b0.out b2.out (by decide);intro e_;exact h_ (by rw [e_];rfl)) _;refine blk_far ?_ (by have h_:=Kd.R_ne b0.out b2.out (by decide);intro e_;exact h_ (by rw [e_];rfl)) _;exact b2.out⟩,⟨by refine blk_far ?_ (by have h_:=Kd.R_ne b0.out b4.out (by decide);intro e_;exact h_ (by rw [e_];rfl)) _;refine blk_far ?_ (by have h_:=Kd.R_ne b0.out b4.out (by decide);intro e_;exact h_ (by rw [e_];rfl)) _;exact b4.out⟩,⟨by refine blk_far ?_ (by have h_:=Kd.R_ne b0.out b3.out (by decide);intro e_;exact h_ (by rw [e_];rfl)) _;refine blk_far ?_ (by have h_:=Kd.R_ne b0.out b3.out (by decide);intro e_;exact h_ (by rw [e_];rfl)) _;exact b3.out⟩,⟨by refine blk_far ?_ (by have h_:=Kd.R_away b0.out (fun _ hk=>hk);intro e_;exact h_ (by rw [e_];rfl)) _;refine blk_far ?_ (by have h_:=Kd.R_away b0.out (fun _ hk=>hk);intro e_;exact h_ (by rw [e_];rfl)) _;exact b5.out⟩,⟨bl HB⟩⟩
     rw [if_pos z8] at H
     have C7:=decide_eq_true z8
     clear z8
     replace H:=Option.bind_eq_some_iff.mp H
     obtain ⟨⟨h9,i3,bb8⟩,A350,H⟩:=H
     dsimp only at H
     have N3:=A_ A350
     clear A350
     by_cases N4:bb8 = true
     case neg =>
      replace N4:=Bool.eq_false_iff.mpr N4
      subst N4
      rw [if_neg (show ¬ (false = true) by decide)] at H
      have H':=A_ H
      clear H
      have bb9:=h3.out
      have bc0:=e2.out
      have bc1:=h5.out
      have bc2:=e5.out
      have bc3:=d4.out
      have bc4:=e9.out
      have I2:wr.cell? ⟨i5,0,none⟩ = some (e4):=cz b4 0
      have I3:=blk_frozen b4.out 0
      have bc5:=h4.out
      have bc6:=e0.out
      have bc7:=d5.out
      have bc8:=h0.out
      have I4:wr.cell? ⟨i2,0,none⟩ = some (.slice m2 b7.length m3):=cz b3 0
      have I5:=blk_frozen b3.out 0
      have bc9:=d3.out
      have bd0:=e8.out
      have I6:wr.cell? ⟨e7,0,none⟩ = some (.slice j8 e6.length j9):=cz b2 0
      have I7:wr.cell? ⟨e7,1,none⟩ = some (.slice l7 c1.length l5):=cz b2 1
      have I8:=blk_frozen b2.out 0
      have I9:=blk_frozen b2.out 1
      obtain ⟨Ao111,co111,J0⟩:=Kd.R_slice b0.out
      subst J0
      go_wp2_with (first | (go_at_call 103;(with_reducible refine (shares_net_fair_1.calls k2 i9 _ _ e6 _ _ c1 _ _ b7 _ _ d2 h9 i3 false _ e7 i2 i5 b2.out b3.out b4.out e0.out e2.out e5.out ?side1 ?side2 ?side3 ?side4 ?side5 ?side6 ?side7 ?side8 N3.out).mono ?_);(case side1=>exact cB n3 HB);(case side2=>exact n4.out);(case side3=>exact cB m7 HB);(case side4=>exact n5.out);(case side5=>repeat (first | exact (Kd.R_reads' b1.out).2.2 | (with_reducible refine Kd.C_alloc ?_ _) | (with_reducible refine Kd.C_drewN ?_ _) | (with_reducible refine Kd.C_drew ?_)));(case side6=>exact (Kd.R_reads' b1.out).2.1);(case side7=>repeat (first | exact (Kd.R_reads' b0.out).2.2 | (with_reducible refine Kd.C_alloc ?_ _) | (with_reducible refine Kd.C_drewN ?_ _) | (with_reducible refine Kd.C_drew ?_)));(case side8=>exact (Kd.R_reads' b0.out).2.1);rintro e w112 ⟨rfl,hb⟩;replace b0:=rB b0 hb;replace b1:=rB b1 hb;replace b2:=kB b2 hb;replace b4:=kB b4 hb;replace b3:=kB b3 hb;replace b5:=kB b5 hb;replace HB:=bB HB hb;(try clear hb)) | ((with_reducible refine gate_dst (N:=9) rfl ?_);refine bx 9 #[.int .i64 0,.int .i64 0] 23 ?_;intro b9 hg J1 hbox hb;have d9:=A_ hbox;have n2:=gw hg HB;have q8:=n2;have h6:=nl hg b2;have i6:=ng hg b2;have h7:=nl hg b4;have i7:=ng hg b4;have h8:=nl hg b3;have i8:=ng hg b3;have e3:=nl hg b5;have d0:=ng hg b5;replace b0:=A_ (Kd.R_below (Kd.R_elderB b0.out b9 (Nat.le_of_eq hg.symm)) hb);replace b1:=rB b1 hb;replace b2:=kB b2 hb;replace b4:=kB b4 hb;replace b3:=kB b3 hb;replace b5:=kB b5 hb;replace HB:=bB HB hb;clear hb hbox hg;have bd1:=i6.out;have bd2:=h6.out;have bd3:=i7.out;have bd4:=h7.out;have bd5:=i8.out;have bd6:=h8.out;have bd7:=d0.out;have bd8:=e3.out;have J2:J1.cell? ⟨b9,0,none⟩ = some (.int .i64 0):=cz d9 0;have J3:J1.cell? ⟨b9,1,none⟩ = some (.int .i64 0):=cz d9 1;have J4:=blk_frozen d9.out 0;have J5:=blk_frozen d9.out 1))
      go_roundg k2
      case measure=>have:=o1.out;have:=o2.out;omega
      case rel=>exact ⟨(l9),(wrap64 (i9 + 1)),(e1),(d6),rfl,rfl,H',⟨by have:=o1.out;have:=o2.out;omega⟩,⟨by exact Kd.R_mono (Kd.R_far (p:=⟨b9,1,none⟩) (Kd.R_far (p:=⟨b9,0,none⟩) (Kd.R_mono b0.out (fun k_ hk=>(⟨hk,hk.2⟩:_ ∧ k_ ≠ b9))) (fun _ hk=>hk.2) (.int .i64 h9)) (fun _ hk=>hk.2) (.int .i64 i3)) (fun _ hk=>hk.1.1)⟩,⟨by exact Kd.R_mono (Kd.R_far (p:=⟨b9,1,none⟩) (Kd.R_far (p:=⟨b9,0,none⟩) (Kd.R_types b1.out d9.out (by decide)) (fun _ hk=>hk.2) (.int .i64 h9)) (fun _ hk=>hk.2) (.int .i64 i3)) (fun _ hk=>trivial)⟩,⟨by refine blk_far ?_ h6.out _;refine blk_far ?_ h6.out _;exact b2.out⟩,⟨by refine blk_far ?_ h7.out _;refine blk_far ?_ h7.out _;exact b4.out⟩,⟨by refine blk_far ?_ h8.out _;refine blk_far ?_ h8.out _;exact b3.out⟩,⟨by refine blk_far ?_ e3.out _;refine blk_far ?_ e3.out _;exact b5.out⟩,⟨bl HB⟩⟩
     subst N4
     rw [if_pos rfl] at H
     by_cases z9:l9 < 0
     ·rw [if_pos z9] at H
      have J6:=decide_eq_true z9
      clear z9
      have H':=A_ H
      clear H
      have hnb38:=h3.out
      have hnc38:=e2.out
      have hnb39:=h5.out
      have hnc39:=e5.out
      have hnb40:=d4.out
      have hnc40:=e9.out
      have N5:wr.cell? ⟨i5,0,none⟩ = some (e4):=cz b4 0
      have N6:=blk_frozen b4.out 0
      have hnb42:=h4.out
      have hnc42:=e0.out
      have hnb43:=d5.out
      have hnc43:=h0.out
      have N7:wr.cell? ⟨i2,0,none⟩ = some (.slice m2 b7.length m3):=cz b3 0
      have N8:=blk_frozen b3.out 0
      have hnb45:=d3.out
      have hnc45:=e8.out
      have N9:wr.cell? ⟨e7,0,none⟩ = some (.slice j8 e6.length j9):=cz b2 0
      have O0:wr.cell? ⟨e7,1,none⟩ = some (.slice l7 c1.length l5):=cz b2 1
      have O1:=blk_frozen b2.out 0
      have O2:=blk_frozen b2.out 1
      obtain ⟨J7,J8,bd9⟩:=Kd.R_slice b0.out
      subst bd9
      try go_wp2_with (first | (go_at_call 103;(with_reducible refine (shares_net_fair_1.calls k2 i9 _ _ e6 _ _ c1 _ _ b7 _ _ d2 h9 i3 true _ e7 i2 i5 b2.out b3.out b4.out e0.out e2.out e5.out ?side1 ?side2 ?side3 ?side4 ?side5 ?side6 ?side7 ?side8 N3.out).mono ?_);(case side1=>exact cB n3 HB);(case side2=>exact n4.out);(case side3=>exact cB m7 HB);(case side4=>exact n5.out);(case side5=>repeat (first | exact (Kd.R_reads' b1.out).2.2 | (with_reducible refine Kd.C_alloc ?_ _) | (with_reducible refine Kd.C_drewN ?_ _) | (with_reducible refine Kd.C_drew ?_)));(case side6=>exact (Kd.R_reads' b1.out).2.1);(case side7=>repeat (first | exact (Kd.R_reads' b0.out).2.2 | (with_reducible refine Kd.C_alloc ?_ _) | (with_reducible refine Kd.C_drewN ?_ _) | (with_reducible refine Kd.C_drew ?_)));(case side8=>exact (Kd.R_reads' b0.out).2.1);rintro e w48 ⟨rfl,hb⟩;replace b0:=rB b0 hb;replace b1:=rB b1 hb;replace b2:=kB b2 hb;replace b4:=kB b4 hb;replace b3:=kB b3 hb;replace b5:=kB b5 hb;replace HB:=bB HB hb;(try clear hb)) | ((with_reducible refine gate_dst (N:=9) rfl ?_);refine bx 9 #[.int .i64 0,.int .i64 0] 23 ?_;intro b9 hg q9 hbox hb;have d9:=A_ hbox;have n2:=gw hg HB;have q8:=n2;have h6:=nl hg b2;have i6:=ng hg b2;have h7:=nl hg b4;have i7:=ng hg b4;have h8:=nl hg b3;have i8:=ng hg b3;have e3:=nl hg b5;have d0:=ng hg b5;replace b0:=A_ (Kd.R_below (Kd.R_elderB b0.out b9 (Nat.le_of_eq hg.symm)) hb);replace b1:=rB b1 hb;replace b2:=kB b2 hb;replace b4:=kB b4 hb;replace b3:=kB b3 hb;replace b5:=kB b5 hb;replace HB:=bB HB hb;clear hb hbox hg;have hnb50:=i6.out;have hnc50:=h6.out;have hnb51:=i7.out;have hnc51:=h7.out;have hnb52:=i8.out;have hnc52:=h8.out;have hnb53:=d0.out;have hnc53:=e3.out;have O3:q9.cell? ⟨b9,0,none⟩ = some (.int .i64 0):=cz d9 0;have O4:q9.cell? ⟨b9,1,none⟩ = some (.int .i64 0):=cz d9 1;have O5:=blk_frozen d9.out 0;have O6:=blk_frozen d9.out 1))
      have x8:Aside0 (Kd.R k23 23 ((q9.setCell ⟨b9,0,none⟩ (.int .i64 h9)).setCell ⟨b9,1,none⟩ (.int .i64 i3)) w.heap.size (fun k_=>k_ ≠ d1 ∧ k_ ≠ b9) (.slice J7 d2.length J8) d2):=⟨by exact Kd.R_mono (Kd.R_far (p:=⟨b9,1,none⟩) (Kd.R_far (p:=⟨b9,0,none⟩) (Kd.R_mono b0.out (fun k_ hk=>(⟨hk,hk.2⟩:_ ∧ k_ ≠ b9))) (fun _ hk=>hk.2) (.int .i64 h9)) (fun _ hk=>hk.2) (.int .i64 i3)) (fun _ hk=>⟨hk.1.1,hk.1.2⟩)⟩
      have x9:Aside0 (Kd.R Kd.bool 4 ((q9.setCell ⟨b9,0,none⟩ (.int .i64 h9)).setCell ⟨b9,1,none⟩ (.int .i64 i3)) w.heap.size (fun _=>True) (.slice m2 b7.length m3) b7):=⟨by exact Kd.R_mono (Kd.R_far (p:=⟨b9,1,none⟩) (Kd.R_far (p:=⟨b9,0,none⟩) (Kd.R_types b1.out d9.out (by decide)) (fun _ hk=>hk.2) (.int .i64 h9)) (fun _ hk=>hk.2) (.int .i64 i3)) (fun _ hk=>trivial)⟩
      have y9:Aside0 (((q9.setCell ⟨b9,0,none⟩ (.int .i64 h9)).setCell ⟨b9,1,none⟩ (.int .i64 i3)).heap[e7]? = some (.cells #[.slice j8 e6.length j9,.slice l7 c1.length l5] 109 (0,0))):=⟨by refine blk_far ?_ h6.out _;refine blk_far ?_ h6.out _;exact b2.out⟩
      have z0:Aside0 (((q9.setCell ⟨b9,0,none⟩ (.int .i64 h9)).setCell ⟨b9,1,none⟩ (.int .i64 i3)).heap[i5]? = some (.cells #[.slice J7 d2.length J8] 35 (0,0))):=⟨by refine blk_far ?_ h7.out _;refine blk_far ?_ h7.out _;exact b4.out⟩
      have z1:Aside0 (((q9.setCell ⟨b9,0,none⟩ (.int .i64 h9)).setCell ⟨b9,1,none⟩ (.int .i64 i3)).heap[i2]? = some (.cells #[.slice m2 b7.length m3] 115 (0,0))):=⟨by refine blk_far ?_ h8.out _;refine blk_far ?_ h8.out _;exact b3.out⟩
      have z2:Aside0 (((q9.setCell ⟨b9,0,none⟩ (.int .i64 h9)).setCell ⟨b9,1,none⟩ (.int .i64 i3)).heap[d1]? = some (.cells #[.int .i64 e1,.int .i64 d6] 23 (0,0))):=⟨by refine blk_far ?_ e3.out _;refine blk_far ?_ e3.out _;exact b5.out⟩
      have z3:Aside0 (((q9.setCell ⟨b9,0,none⟩ (.int .i64 h9)).setCell ⟨b9,1,none⟩ (.int .i64 i3)).heap[b9]? = some (.cells #[.int .i64 h9,.int .i64 i3] 23 (0,0))):=⟨by refine blk_put (cs:=#[.int .i64 h9,.int .i64 0]) ?_ 1 _ rfl;refine blk_put (cs:=#[.int .i64 0,.int .i64 0]) ?_ 0 _ rfl;exact d9.out⟩
      have n7_:Aside0 (Below w.heap.size w ((q9.setCell ⟨b9,0,none⟩ (.int .i64 h9)).setCell ⟨b9,1,none⟩ (.int .i64 i3))):=⟨bl HB⟩
      generalize ((q9.setCell ⟨b9,0,none⟩ (.int .i64 h9)).setCell ⟨b9,1,none⟩ (.int .i64 i3)) = w55 at x8 x9 y9 z0 z1 z2 z3 n7_ ⊢
      have b0:=x8
      have b1:=x9
      have b2:=y9
      have b4:=z0
      have b3:=z1
      have b5:=z2
      have d9:=z3
      have HB:=n7_
      clear x8 x9 y9 z0 z1 z2 z3 n7_
      replace b0:=rD b0
      replace b1:=rD b1
      replace b2:=kD b2
      replace b4:=kD b4
      replace b3:=kD b3
      replace b5:=kD b5
      replace d9:=kD d9
      replace HB:=bD HB
      refine start_ (n:=4) (S:=fun w'=>w'.cell? ⟨b9,0,none⟩ = some (.int .i64 h9) ∧ w'.cell? ⟨b9,1,none⟩ = some (.int .i64 i3)) (ds:=[]) (ba 4 0) (by kernel_rfl) rfl rfl ⟨cz d9 0,cz d9 1⟩ (fun hHeld=>?_)
      generalize w55.drew = w56 at b0 b1 b2 b4 b3 b5 d9 HB hHeld ⊢
      refine pr 0 47 1 ?_
      refine pr 2 6 5 ?_
      refine tr 1 48 7 hHeld ?_
      refine one_ (i:=3) (N:=none) (ba 4 15) rfl rfl (by kernel_rfl) (by decide) (fun K hK=>?_)
      have hs57:w56.cell? ⟨d1,0,none⟩ = some (.int .i64 e1):=cz b5 0
      have hfs57:=blk_frozen b5.out 0
      have O7:=d3.out
      have O8:=d4.out
      have O9:=d5.out
      have P0:=d0.out
      have P1:=e8.out
      have P2:=e9.out
      have P3:=h0.out
      have P4:=e3.out
      have hs58:w56.cell? ⟨d1,1,none⟩ = some (.int .i64 d6):=cz b5 1
      have hfs58:=blk_frozen b5.out 1
      have P5:=d3.out
      have P6:=d4.out
      have P7:=d5.out
      have P8:=d0.out
      have P9:=e8.out
      have Q0:=e9.out
      have Q1:=h0.out
      have Q2:=e3.out
      refine skip_ (w1:=?_) (by rfl) rfl ?_ ?_
      rotate_left
      ·go_simp
       rfl
      refine hK.out _ _ ⟨((cell_far (p:=⟨d1,_,none⟩) d0.out _).trans (((cell_far (p:=⟨d1,_,none⟩) d0.out _).trans (hHeld.1)))),((cell_far (p:=⟨d1,_,none⟩) d0.out _).trans (((cell_far (p:=⟨d1,_,none⟩) d0.out _).trans (hHeld.2))))⟩ (fun hHeld=>?_)
      clear hK K
      refine done_ (by kernel_rfl) ?_
      try go_wp2
      go_roundg k2
      case measure=>have:=o1.out;have:=o2.out;omega
      case rel=>exact ⟨(i9),(wrap64 (i9 + 1)),(h9),(i3),rfl,rfl,H',⟨by have:=o1.out;have:=o2.out;omega⟩,⟨by exact Kd.R_mono (Kd.R_far (p:=⟨d1,1,none⟩) (Kd.R_far (p:=⟨d1,0,none⟩) (Kd.R_mono b0.out (fun k_ hk=>(⟨hk,hk.1⟩:_ ∧ k_ ≠ d1))) (fun _ hk=>hk.2) (.int .i64 h9)) (fun _ hk=>hk.2) (.int .i64 i3)) (fun _ hk=>hk.1.1)⟩,⟨by exact Kd.R_mono (Kd.R_far (p:=⟨d1,1,none⟩) (Kd.R_far (p:=⟨d1,0,none⟩) (Kd.R_types b1.out b5.out (by decide)) (fun _ hk=>hk.2) (.int .i64 h9)) (fun _ hk=>hk.2) (.int .i64 i3)) (fun _ hk=>trivial)⟩,⟨by refine blk_far ?_ d3.out _;refine blk_far ?_ d3.out _;exact b2.out⟩,⟨by refine blk_far ?_ d4.out _;refine blk_far ?_ d4.out _;exact b4.out⟩,⟨by refine blk_far ?_ d5.out _;refine blk_far ?_ d5.out _;exact b3.out⟩,⟨by refine blk_put (cs:=#[.int .i64 h9,.int .i64 d6]) ?_ 1 _ rfl;refine blk_put (cs:=#[.int .i64 e1,.int .i64 d6]) ?_ 0 _ rfl;exact b5.out⟩,⟨bl HB⟩⟩
     rw [if_neg z9] at H
     have J6:=decide_eq_false z9
     clear z9
     replace H:=Option.bind_eq_some_iff.mp H
     obtain ⟨p1,J9,H⟩:=H
     replace H:(if p1 < 0 then (shares_net_fair.l1 k2 i9 (e6.length:Int) (wrap64 (i9 + 1)) e6 c1 d2 b7 h9 i3) else (shares_net_fair.l1 k2 l9 (e6.length:Int) (wrap64 (i9 + 1)) e6 c1 d2 b7 e1 d6)) = some r:=H
     have A59:=A_ J9
     clear J9
     by_cases A0:p1 < 0
     case neg =>
      rw [if_neg A0] at H
      have K0:=decide_eq_false A0
      clear A0
      have H':=A_ H
      clear H
      have hnb83:=h3.out
      have hnc83:=e2.out
      have hnb84:=h5.out
      have hnc84:=e5.out
      have hnb85:=d4.out
      have hnc85:=e9.out
      have Q3:wr.cell? ⟨i5,0,none⟩ = some (e4):=cz b4 0
      have Q4:=blk_frozen b4.out 0
      have hnb87:=h4.out
      have hnc87:=e0.out
      have hnb88:=d5.out
      have hnc88:=h0.out
      have Q5:wr.cell? ⟨i2,0,none⟩ = some (.slice m2 b7.length m3):=cz b3 0
      have Q6:=blk_frozen b3.out 0
      have hnb90:=d3.out
      have hnc90:=e8.out
      have Q7:wr.cell? ⟨e7,0,none⟩ = some (.slice j8 e6.length j9):=cz b2 0
      have Q8:wr.cell? ⟨e7,1,none⟩ = some (.slice l7 c1.length l5):=cz b2 1
      have Q9:=blk_frozen b2.out 0
      have R0:=blk_frozen b2.out 1
      obtain ⟨Ao92,co92,eo92⟩:=Kd.R_slice b0.out
      subst eo92
      go_wp2_with (first | (go_at_call 103;(with_reducible refine (shares_net_fair_1.calls k2 i9 _ _ e6 _ _ c1 _ _ b7 _ _ d2 h9 i3 true _ e7 i2 i5 b2.out b3.out b4.out e0.out e2.out e5.out ?side1 ?side2 ?side3 ?side4 ?side5 ?side6 ?side7 ?side8 N3.out).mono ?_);(case side1=>exact cB n3 HB);(case side2=>exact n4.out);(case side3=>exact cB m7 HB);(case side4=>exact n5.out);(case side5=>repeat (first | exact (Kd.R_reads' b1.out).2.2 | (with_reducible refine Kd.C_alloc ?_ _) | (with_reducible refine Kd.C_drewN ?_ _) | (with_reducible refine Kd.C_drew ?_)));(case side6=>exact (Kd.R_reads' b1.out).2.1);(case side7=>repeat (first | exact (Kd.R_reads' b0.out).2.2 | (with_reducible refine Kd.C_alloc ?_ _) | (with_reducible refine Kd.C_drewN ?_ _) | (with_reducible refine Kd.C_drew ?_)));(case side8=>exact (Kd.R_reads' b0.out).2.1);rintro e w93 ⟨rfl,hb⟩;replace b0:=rB b0 hb;replace b1:=rB b1 hb;replace b2:=kB b2 hb;replace b4:=kB b4 hb;replace b3:=kB b3 hb;replace b5:=kB b5 hb;replace HB:=bB HB hb;(try clear hb)) | ((with_reducible refine gate_dst (N:=9) rfl ?_);refine bx 9 #[.int .i64 0,.int .i64 0] 23 ?_;intro b9 hg R1 hbox hb;have d9:=A_ hbox;have n2:=gw hg HB;have q8:=n2;have h6:=nl hg b2;have i6:=ng hg b2;have h7:=nl hg b4;have i7:=ng hg b4;have h8:=nl hg b3;have i8:=ng hg b3;have e3:=nl hg b5;have d0:=ng hg b5;replace b0:=A_ (Kd.R_below (Kd.R_elderB b0.out b9 (Nat.le_of_eq hg.symm)) hb);replace b1:=rB b1 hb;replace b2:=kB b2 hb;replace b4:=kB b4 hb;replace b3:=kB b3 hb;replace b5:=kB b5 hb;replace HB:=bB HB hb;clear hb hbox hg;have hnb95:=i6.out;have hnc95:=h6.out;have hnb96:=i7.out;have hnc96:=h7.out;have hnb97:=i8.out;have hnc97:=h8.out;have hnb98:=d0.out;have hnc98:=e3.out;have R2:R1.cell? ⟨b9,0,none⟩ = some (.int .i64 0):=cz d9 0;have R3:R1.cell? ⟨b9,1,none⟩ = some (.int .i64 0):=cz d9 1;have R4:=blk_frozen d9.out 0;have R5:=blk_frozen d9.out 1;have K1:R1.cell? ⟨d1,0,none⟩ = some (.int .i64 e1):=cz b5 0;have K2:R1.cell? ⟨d1,1,none⟩ = some (.int .i64 d6):=cz b5 1;have K3:=blk_frozen b5.out 0;have K4:=blk_frozen b5.out 1) | (go_at_call 85;(with_reducible refine (shares_compare.calls k2 h9 i3 e1 d6 p1 _ A59.out).mono ?_);rintro e w101 ⟨rfl,hb⟩;replace b0:=A_ (Kd.R_below (by exact (Kd.R_mono (Kd.R_far (p:=⟨b9,1,none⟩) (Kd.R_far (p:=⟨b9,0,none⟩) (Kd.R_mono b0.out (fun k_ hk=>(⟨hk,hk.2⟩:_ ∧ k_ ≠ b9))) (fun _ hk=>hk.2) (.int .i64 h9)) (fun _ hk=>hk.2) (.int .i64 i3)) (fun _ h_=>h_.1))) hb);replace b1:=A_ (Kd.R_below (by exact (Kd.R_mono (Kd.R_far (p:=⟨b9,1,none⟩) (Kd.R_far (p:=⟨b9,0,none⟩) (Kd.R_types b1.out d9.out (by decide)) (fun _ hk=>hk.2) (.int .i64 h9)) (fun _ hk=>hk.2) (.int .i64 i3)) (fun _ h_=>h_.1))) hb);replace b2:=kB b2 hb;replace b4:=kB b4 hb;replace b3:=kB b3 hb;replace b5:=kB b5 hb;replace d9:=A_ (blk_below (g:=b9) (o:=.cells #[.int .i64 h9,.int .i64 i3] 23 (0,0)) (by refine blk_put (cs:=#[.int .i64 h9,.int .i64 0]) ?_ 1 _ rfl;refine blk_put (cs:=#[.int .i64 0,.int .i64 0]) ?_ 0 _ rfl;exact d9.out) hb);replace HB:=bB HB hb;(try clear hb)))
      go_roundg k2
      case measure=>have:=o1.out;have:=o2.out;omega
      case rel=>exact ⟨(l9),(wrap64 (i9 + 1)),(e1),(d6),rfl,rfl,H',⟨by have:=o1.out;have:=o2.out;omega⟩,⟨by exact Kd.R_mono b0.out (fun _ hk=>hk.1)⟩,⟨by exact b1.out⟩,⟨by exact b2.out⟩,⟨by exact b4.out⟩,⟨by exact b3.out⟩,⟨by exact b5.out⟩,⟨bl HB⟩⟩
     rw [if_pos A0] at H
     have K0:=decide_eq_true A0
     clear A0
     have H':=A_ H
     clear H
     have hnb61:=h3.out
     have hnc61:=e2.out
     have hnb62:=h5.out
     have hnc62:=e5.out
     have hnb63:=d4.out
     have hnc63:=e9.out
     have R6:wr.cell? ⟨i5,0,none⟩ = some (e4):=cz b4 0
     have R7:=blk_frozen b4.out 0
     have hnb65:=h4.out
     have hnc65:=e0.out
     have hnb66:=d5.out
     have hnc66:=h0.out
     have R8:wr.cell? ⟨i2,0,none⟩ = some (.slice m2 b7.length m3):=cz b3 0
     have R9:=blk_frozen b3.out 0
     have hnb68:=d3.out
     have hnc68:=e8.out
     have S0:wr.cell? ⟨e7,0,none⟩ = some (.slice j8 e6.length j9):=cz b2 0
     have S1:wr.cell? ⟨e7,1,none⟩ = some (.slice l7 c1.length l5):=cz b2 1
     have S2:=blk_frozen b2.out 0
     have S3:=blk_frozen b2.out 1
     obtain ⟨Ao70,co70,eo70⟩:=Kd.R_slice b0.out
     subst eo70
     try go_wp2_with (first | (go_at_call 103;(with_reducible refine (shares_net_fair_1.calls k2 i9 _ _ e6 _ _ c1 _ _ b7 _ _ d2 h9 i3 true _ e7 i2 i5 b2.out b3.out b4.out e0.out e2.out e5.out ?side1 ?side2 ?side3 ?side4 ?side5 ?side6 ?side7 ?side8 N3.out).mono ?_);(case side1=>exact cB n3 HB);(case side2=>exact n4.out);(case side3=>exact cB m7 HB);(case side4=>exact n5.out);(case side5=>repeat (first | exact (Kd.R_reads' b1.out).2.2 | (with_reducible refine Kd.C_alloc ?_ _) | (with_reducible refine Kd.C_drewN ?_ _) | (with_reducible refine Kd.C_drew ?_)));(case side6=>exact (Kd.R_reads' b1.out).2.1);(case side7=>repeat (first | exact (Kd.R_reads' b0.out).2.2 | (with_reducible refine Kd.C_alloc ?_ _) | (with_reducible refine Kd.C_drewN ?_ _) | (with_reducible refine Kd.C_drew ?_)));(case side8=>exact (Kd.R_reads' b0.out).2.1);rintro e w71 ⟨rfl,hb⟩;replace b0:=rB b0 hb;replace b1:=rB b1 hb;replace b2:=kB b2 hb;replace b4:=kB b4 hb;replace b3:=kB b3 hb;replace b5:=kB b5 hb;replace HB:=bB HB hb;(try clear hb)) | ((with_reducible refine gate_dst (N:=9) rfl ?_);refine bx 9 #[.int .i64 0,.int .i64 0] 23 ?_;intro b9 hg S4 hbox hb;have d9:=A_ hbox;have n2:=gw hg HB;have q8:=n2;have h6:=nl hg b2;have i6:=ng hg b2;have h7:=nl hg b4;have i7:=ng hg b4;have h8:=nl hg b3;have i8:=ng hg b3;have e3:=nl hg b5;have d0:=ng hg b5;replace b0:=A_ (Kd.R_below (Kd.R_elderB b0.out b9 (Nat.le_of_eq hg.symm)) hb);replace b1:=rB b1 hb;replace b2:=kB b2 hb;replace b4:=kB b4 hb;replace b3:=kB b3 hb;replace b5:=kB b5 hb;replace HB:=bB HB hb;clear hb hbox hg;have hnb73:=i6.out;have hnc73:=h6.out;have hnb74:=i7.out;have hnc74:=h7.out;have hnb75:=i8.out;have hnc75:=h8.out;have hnb76:=d0.out;have hnc76:=e3.out;have S5:S4.cell? ⟨b9,0,none⟩ = some (.int .i64 0):=cz d9 0;have S6:S4.cell? ⟨b9,1,none⟩ = some (.int .i64 0):=cz d9 1;have S7:=blk_frozen d9.out 0;have S8:=blk_frozen d9.out 1;have S9:S4.cell? ⟨d1,0,none⟩ = some (.int .i64 e1):=cz b5 0;have T0:S4.cell? ⟨d1,1,none⟩ = some (.int .i64 d6):=cz b5 1;have U0:=blk_frozen b5.out 0;have U1:=blk_frozen b5.out 1) | (go_at_call 85;(with_reducible refine (shares_compare.calls k2 h9 i3 e1 d6 p1 _ A59.out).mono ?_);rintro e w79 ⟨rfl,hb⟩;replace b0:=A_ (Kd.R_below (by exact (Kd.R_mono (Kd.R_far (p:=⟨b9,1,none⟩) (Kd.R_far (p:=⟨b9,0,none⟩) (Kd.R_mono b0.out (fun k_ hk=>(⟨hk,hk.2⟩:_ ∧ k_ ≠ b9))) (fun _ hk=>hk.2) (.int .i64 h9)) (fun _ hk=>hk.2) (.int .i64 i3)) (fun _ h_=>h_.1))) hb);replace b1:=A_ (Kd.R_below (by exact (Kd.R_mono (Kd.R_far (p:=⟨b9,1,none⟩) (Kd.R_far (p:=⟨b9,0,none⟩) (Kd.R_types b1.out d9.out (by decide)) (fun _ hk=>hk.2) (.int .i64 h9)) (fun _ hk=>hk.2) (.int .i64 i3)) (fun _ h_=>h_.1))) hb);replace b2:=kB b2 hb;replace b4:=kB b4 hb;replace b3:=kB b3 hb;replace b5:=kB b5 hb;replace d9:=A_ (blk_below (g:=b9) (o:=.cells #[.int .i64 h9,.int .i64 i3] 23 (0,0)) (by refine blk_put (cs:=#[.int .i64 h9,.int .i64 0]) ?_ 1 _ rfl;refine blk_put (cs:=#[.int .i64 0,.int .i64 0]) ?_ 0 _ rfl;exact d9.out) hb);replace HB:=bB HB hb;(try clear hb)))
     replace b0:=rD b0
     replace b1:=rD b1
     replace b2:=kD b2
     replace b4:=kD b4
     replace b3:=kD b3
     replace b5:=kD b5
     replace d9:=kD d9
     replace HB:=bD HB
     refine start_ (n:=4) (S:=fun w'=>w'.cell? ⟨b9,0,none⟩ = some (.int .i64 h9) ∧ w'.cell? ⟨b9,1,none⟩ = some (.int .i64 i3)) (ds:=[]) (ba 4 0) (by kernel_rfl) rfl rfl ⟨cz d9 0,cz d9 1⟩ (fun hHeld=>?_)
     generalize w79.drew = w80 at b0 b1 b2 b4 b3 b5 d9 HB hHeld ⊢
     refine pr 0 47 1 ?_
     refine pr 2 6 5 ?_
     refine tr 1 48 7 hHeld ?_
     refine one_ (i:=3) (N:=none) (ba 4 15) rfl rfl (by kernel_rfl) (by decide) (fun K hK=>?_)
     have hs81:w80.cell? ⟨d1,0,none⟩ = some (.int .i64 e1):=cz b5 0
     have hfs81:=blk_frozen b5.out 0
     have U2:=d3.out
     have U3:=d4.out
     have U4:=d5.out
     have U5:=d0.out
     have U6:=e8.out
     have U7:=e9.out
     have U8:=h0.out
     have U9:=e3.out
     have hs82:w80.cell? ⟨d1,1,none⟩ = some (.int .i64 d6):=cz b5 1
     have hfs82:=blk_frozen b5.out 1
     have V0:=d3.out
     have V1:=d4.out
     have V2:=d5.out
     have V3:=d0.out
     have V4:=e8.out
     have V5:=e9.out
     have V6:=h0.out
     have V7:=e3.out
     refine skip_ (w1:=?_) (by rfl) rfl ?_ ?_
     rotate_left
     ·go_simp
      rfl
     refine hK.out _ _ ⟨((cell_far (p:=⟨d1,_,none⟩) d0.out _).trans (((cell_far (p:=⟨d1,_,none⟩) d0.out _).trans (hHeld.1)))),((cell_far (p:=⟨d1,_,none⟩) d0.out _).trans (((cell_far (p:=⟨d1,_,none⟩) d0.out _).trans (hHeld.2))))⟩ (fun hHeld=>?_)
     clear hK K
     refine done_ (by kernel_rfl) ?_
     try go_wp2
     go_roundg k2
     case measure=>have:=o1.out;have:=o2.out;omega
     case rel=>exact ⟨(i9),(wrap64 (i9 + 1)),(h9),(i3),rfl,rfl,H',⟨by have:=o1.out;have:=o2.out;omega⟩,⟨by exact Kd.R_mono (Kd.R_far (p:=⟨d1,1,none⟩) (Kd.R_far (p:=⟨d1,0,none⟩) (Kd.R_mono b0.out (fun k_ hk=>(⟨hk,hk.1⟩:_ ∧ k_ ≠ d1))) (fun _ hk=>hk.2) (.int .i64 h9)) (fun _ hk=>hk.2) (.int .i64 i3)) (fun _ hk=>hk.1.1)⟩,⟨by exact Kd.R_mono (Kd.R_far (p:=⟨d1,1,none⟩) (Kd.R_far (p:=⟨d1,0,none⟩) (Kd.R_types b1.out b5.out (by decide)) (fun _ hk=>hk.2) (.int .i64 h9)) (fun _ hk=>hk.2) (.int .i64 i3)) (fun _ hk=>trivial)⟩,⟨by refine blk_far ?_ d3.out _;refine blk_far ?_ d3.out _;exact b2.out⟩,⟨by refine blk_far ?_ d4.out _;refine blk_far ?_ d4.out _;exact b4.out⟩,⟨by refine blk_far ?_ d5.out _;refine blk_far ?_ d5.out _;exact b3.out⟩,⟨by refine blk_put (cs:=#[.int .i64 h9,.int .i64 d6]) ?_ 1 _ rfl;refine blk_put (cs:=#[.int .i64 e1,.int .i64 d6]) ?_ 0 _ rfl;exact b5.out⟩,⟨bl HB⟩⟩
end Go.Proofs.Ytjohcjfmlhihbaa.G
set_option linter.unusedSectionVars false
namespace Go.Proofs.Ytjohcjfmlhihbaa.P
open Go Go.RowKit Go.Proofs.Ytjohcjfmlhihbaa.G
open Go.Proofs.YtjohcjfmlhihbaaW.PrintWords Go.Proofs.YtjohcjfmlhihbaaW.PrintMore
def better (p:List Int) (u:List S45) (fix:Nat → Bool) (r:Nat → Rat) (q:Nat) (b:Option (Nat × Rat)):Option (Nat × Rat) :=
 if wN (netOf p u) u fix q u.length = 0 then b else
  match b with
  | none=>some (q,muq p u fix r q)
  | some am=>if muq p u fix r q < am.2 then some (q,muq p u fix r q) else some am
def srch (p:List Int) (u:List S45) (fix:Nat → Bool) (r:Nat → Rat):Nat → Nat → Option (Nat × Rat) → Option (Nat × Rat)
 | 0,_,b=>b
 | d + 1,i,b=>srch p u fix r d (i + 1) (better p u fix r i b)
def Best (p:List Int) (u:List S45) (fix:Nat → Bool) (r:Nat → Rat) (i:Nat):Option (Nat × Rat) → Prop
 | none=>∀ q,q < i → wN (netOf p u) u fix q u.length = 0
 | some am=>am.1 < p.length ∧ wN (netOf p u) u fix am.1 u.length ≠ 0 ∧ am.2 = muq p u fix r am.1 ∧ ∀ q,q < i → wN (netOf p u) u fix q u.length ≠ 0 → muq p u fix r am.1 ≤ muq p u fix r q
theorem Best.next {p:List Int} {u:List S45} {fix:Nat → Bool} {r:Nat → Rat} {i:Nat} {b:Option (Nat × Rat)} (hi:i < p.length) (h:Best p u fix r i b):Best p u fix r (i + 1) (better p u fix r i b):=by
 unfold better
 by_cases hw:wN (netOf p u) u fix i u.length = 0
 ·rw [if_pos hw]
  cases b with
  | none =>
   intro q hq
   by_cases e:q = i
   ·rw [e];exact hw
   ·exact h q (by omega)
  | some am =>
   refine ⟨h.1,h.2.1,h.2.2.1,fun q hq hwq=>?_⟩
   by_cases e:q = i
   ·subst e;exact absurd hw hwq
   ·exact h.2.2.2 q (by omega) hwq
 ·rw [if_neg hw]
  cases b with
  | none =>
   refine ⟨hi,hw,rfl,fun q hq hwq=>?_⟩
   by_cases e:q = i
   ·subst e;exact Rat.le_refl
   ·exact absurd (h q (by omega)) hwq
  | some am =>
   show Best p u fix r (i + 1) (if muq p u fix r i < am.2 then some (i,muq p u fix r i) else some am)
   obtain ⟨h1,h2,h3,h4⟩:=h
   by_cases hlt:muq p u fix r i < am.2
   ·rw [if_pos hlt]
    refine ⟨hi,hw,rfl,fun q hq hwq=>?_⟩
    by_cases e:q = i
    ·subst e;exact Rat.le_refl
    ·have:=h4 q (by omega) hwq
     show muq p u fix r i ≤ _
     grind
   ·rw [if_neg hlt]
    refine ⟨h1,h2,h3,fun q hq hwq=>?_⟩
    by_cases e:q = i
    ·subst e;rw [h3] at hlt;exact Rat.not_lt.1 hlt
    ·exact h4 q (by omega) hwq
theorem Best.srch {p:List Int} {u:List S45} {fix:Nat → Bool} {r:Nat → Rat}:∀ {d i:Nat} {b:Option (Nat × Rat)},i + d = p.length → Best p u fix r i b → Best p u fix r p.length (srch p u fix r d i b)
 | 0,i,b,hi,h=>by
  obtain rfl:i = p.length:=by omega
  exact h
 | d + 1,i,b,hi,h=>Best.srch (d:=d) (by omega) (h.next (by omega))
def bP:Option (Nat × Rat) → Int × Int × Int
 | none=>(-1,0,0)
 | some am=>((am.1:Int),am.2.num,(am.2.den:Int))
def raiseV (p:List Int) (u:List S45) (fix:Nat → Bool) (r:Nat → Rat) (q:Nat):Int × Int × Bool:=if wN (netOf p u) u fix q u.length = 0 then (0,0,false) else ((muq p u fix r q).num,((muq p u fix r q).den:Int),true)
def fixN (p:List Int) (u:List S45) (fix:Nat → Bool) (a:Nat) (v:Nat):Bool:=fix v || (netOf p u).has v a
def rN (p:List Int) (u:List S45) (fix:Nat → Bool) (r:Nat → Rat) (a:Nat) (m:Rat) (v:Nat):Rat:=if fix v = false ∧ (netOf p u).has v a = true then m * (netOf p u).w v else r v
def fixI (p:List Int) (u:List S45) (fix:Nat → Bool) (a i:Nat) (v:Nat):Bool:=if v < i then fixN p u fix a v else fix v
def rI (p:List Int) (u:List S45) (fix:Nat → Bool) (r:Nat → Rat) (a:Nat) (m:Rat) (i:Nat) (v:Nat):Rat:=if v < i then rN p u fix r a m v else r v
section
variable {p:List Int} {u:List S45} {fix:Nat → Bool} {r:Nat → Rat} {z:S23} {a:Nat} {m:Rat}
theorem next_same {i:Nat} (h:¬ (fix i = false ∧ (netOf p u).has i a = true)):rts u.length z (fixI p u fix a (i + 1)) (rI p u fix r a m (i + 1)) = rts u.length z (fixI p u fix a i) (rI p u fix r a m i) ∧ tab u.length (fixI p u fix a (i + 1)) = tab u.length (fixI p u fix a i):=by
 have h1:∀ v,fixI p u fix a (i + 1) v = fixI p u fix a i v:=by
  intro v
  unfold fixI
  by_cases e:v = i
  ·subst e
   rw [if_pos (by omega),if_neg (by omega)]
   unfold fixN
   cases hf:fix v
   ·cases hh:(netOf p u).has v a
    ·rfl
    ·exact absurd ⟨hf,hh⟩ h
   ·rfl
  ·by_cases e2:v < i
   ·rw [if_pos (by omega),if_pos e2]
   ·rw [if_neg (by omega),if_neg e2]
 have h2:∀ v,rI p u fix r a m (i + 1) v = rI p u fix r a m i v:=by
  intro v
  unfold rI
  by_cases e:v = i
  ·subst e
   rw [if_pos (by omega),if_neg (by omega)]
   unfold rN
   rw [if_neg h]
  ·by_cases e2:v < i
   ·rw [if_pos (by omega),if_pos e2]
   ·rw [if_neg (by omega),if_neg e2]
 exact ⟨tab_congr fun v _=>by rw [h1,h2],tab_congr fun v _=>h1 v⟩
theorem next_set {i:Nat} (h:fix i = false ∧ (netOf p u).has i a = true):rts u.length z (fixI p u fix a (i + 1)) (rI p u fix r a m (i + 1)) = (rts u.length z (fixI p u fix a i) (rI p u fix r a m i)).set i (encQ (m * (netOf p u).w i)) ∧ tab u.length (fixI p u fix a (i + 1)) = (tab u.length (fixI p u fix a i)).set i true:=by
 have h1:∀ v,v ≠ i → fixI p u fix a (i + 1) v = fixI p u fix a i v ∧ rI p u fix r a m (i + 1) v = rI p u fix r a m i v:=by
  intro v e
  unfold fixI rI
  by_cases e2:v < i
  ·rw [if_pos (by omega),if_pos e2,if_pos (by omega),if_pos e2];exact ⟨rfl,rfl⟩
  ·rw [if_neg (by omega),if_neg e2,if_neg (by omega),if_neg e2];exact ⟨rfl,rfl⟩
 have h2:fixI p u fix a (i + 1) i = true:=by
  unfold fixI fixN
  rw [if_pos (by omega),h.2,Bool.or_true]
 have h3:rI p u fix r a m (i + 1) i = m * (netOf p u).w i:=by
  unfold rI rN
  rw [if_pos (by omega),if_pos h]
 unfold rts
 rw [tab_set,tab_set]
 refine ⟨tab_congr fun v _=>?_,tab_congr fun v _=>?_⟩
 ·by_cases e:v = i
  ·subst e;rw [if_pos h2,if_pos rfl,h3]
  ·rw [if_neg e,(h1 v e).1,(h1 v e).2]
 ·by_cases e:v = i
  ·subst e;rw [if_pos rfl,h2]
  ·rw [if_neg e,(h1 v e).1]
theorem first_lists:rts u.length z (fixI p u fix a 0) (rI p u fix r a m 0) = rts u.length z fix r ∧ tab u.length (fixI p u fix a 0) = tab u.length fix:=by
 refine ⟨tab_congr fun v _=>?_,tab_congr fun v _=>?_⟩
 ·unfold fixI rI;rw [if_neg (show ¬ v < 0 by omega),if_neg (show ¬ v < 0 by omega)]
 ·unfold fixI;rw [if_neg (show ¬ v < 0 by omega)]
theorem last_lists:rts u.length z (fixI p u fix a u.length) (rI p u fix r a m u.length) = rts u.length z (fixN p u fix a) (rN p u fix r a m) ∧ tab u.length (fixI p u fix a u.length) = tab u.length (fixN p u fix a):=by
 refine ⟨tab_congr fun v hv=>?_,tab_congr fun v hv=>?_⟩
 ·unfold fixI rI;rw [if_pos hv,if_pos hv]
 ·unfold fixI;rw [if_pos hv]
end
theorem times_den (q:Rat) (n:Int):(q * (n:Rat)).den ∣ q.den:=by
 rw [← mk_times]
 exact den_dvd _ (Nat.ne_of_gt (den_pos q))
theorem wN_ge {N:Net} {u:List S45} {fix:Nat → Bool} {q v:Nat} (h:N.has v q = true) (hf:fix v = false):∀ i,v < i → (rd_T45 u (v:Int)).f0.toNat ≤ wN N u fix q i
 | 0,hi=>by omega
 | i + 1,hi=>by
  rw [wN]
  by_cases e:v = i
  ·subst e
   rw [if_pos (by rw [h,hf];rfl)]
   omega
  ·have:=wN_ge (u:=u) h hf i (by omega)
   split <;> omega
section
variable {p:List Int} {u:List S45} (hN:IsN p u) {fix:Nat → Bool} {r:Nat → Rat} {lam:Rat} {D:Nat} (hF:FS p u fix r lam D)
include hN hF
theorem FS.next {a:Nat} {m:Rat} (hB:Best p u fix r p.length (some (a,m))):FS p u (fixN p u fix a) (rN p u fix r a m) m (D * wN (netOf p u) u fix a u.length) ∧ cnt u.length (fixN p u fix a) < cnt u.length fix:=by
 obtain ⟨h1,h2,h3,h4⟩:=hB
 have h3':m = muq p u fix r a:=h3
 subst h3'
 have hW:0 < (netOf p u).W fix a:=(W_pos_iff hN hF).2 h2
 have hmm:=mu_mul hN hF h2
 have hmin:∀ q,q < (netOf p u).n → 0 < (netOf p u).W fix q → muq p u fix r a * (netOf p u).W fix q ≤ (netOf p u).left fix r q:=by
  intro q hq hWq
  have hw:=(W_pos_iff hN hF).1 hWq
  rw [← mu_mul hN hF hw]
  exact Rat.mul_le_mul_of_nonneg_right (h4 q hq hw) (Rat.le_of_lt hWq)
 obtain ⟨hs,hl⟩:=Net.Fill.step (wpos hN) hF.fill h1 hW hmm hmin
 have hlt:cnt u.length (fixN p u fix a) < cnt u.length fix:=by
  refine cnt_lt _ _ _ (fun v _ hv=>by unfold fixN;rw [hv];rfl) ?_
  apply Classical.byContradiction
  intro hno
  have:(netOf p u).W fix a = 0:=S_zero fun v hv=>by
   cases hf:fix v
   ·cases hh:(netOf p u).has v a
    ·rfl
    ·exact absurd ⟨v,hv,hf,by unfold fixN;rw [hf,hh];rfl⟩ hno
   ·simp
  rw [this] at hW
  exact absurd hW (by decide)
 have m0:0 ≤ muq p u fix r a:=Rat.le_trans hF.lam0 hl
 have hmu:=mu_num hN hF h1 h2
 refine ⟨⟨hs,m0,fun v hv hf=>?_,Nat.mul_pos hF.d0 (Nat.pos_of_ne_zero h2),dens_step hF.dd (wN_cnt hN fix a u.length (Nat.le_refl _)) hlt⟩,hlt⟩
 unfold rN
 by_cases hc:fix v = false ∧ (netOf p u).has v a = true
 ·rw [if_pos hc]
  obtain ⟨e1,e2,e3,e4⟩:=w_nat hN hv
  refine ⟨Rat.mul_nonneg m0 (Rat.le_of_lt (wpos hN v hv)),?_,Nat.dvd_trans (times_den _ _) hmu.2.2.1⟩
  have hge:=wN_ge (N:=netOf p u) (u:=u) hc.2 hc.1 u.length hv
  have hle:(netOf p u).w v ≤ (netOf p u).W fix a:=by
   rw [e1,← wN_W hN]
   exact Rat.natCast_le_natCast.2 hge
  have h5:=Rat.mul_le_mul_of_nonneg_left hle m0
  rw [hmm] at h5
  have h6:=(lf_bd hN hF h1 u.length (Nat.le_refl _)).1
  rw [lf_left hN] at h6
  exact Rat.le_trans h5 h6
 ·rw [if_neg hc]
  have hfv:fix v = true:=by
   cases hfv:fix v
   ·unfold fixN at hf
    rw [hfv,Bool.false_or] at hf
    exact absurd ⟨hfv,hf⟩ hc
   ·rfl
  obtain ⟨b1,b2,b3⟩:=hF.rb v hv hfv
  exact ⟨b1,b2,Nat.dvd_trans b3 (Nat.dvd_mul_right _ _)⟩
theorem some_best (hc:0 < cnt u.length fix):∃ am,srch p u fix r p.length 0 none = some am ∧ Best p u fix r p.length (some am):=by
 have hB:=Best.srch (p:=p) (u:=u) (fix:=fix) (r:=r) (d:=p.length) (i:=0) (b:=none) (by omega) (fun q hq=>by omega)
 cases hs:srch p u fix r p.length 0 none with
 | some am=>rw [hs] at hB;exact ⟨am,rfl,hB⟩
 | none =>
  rw [hs] at hB
  obtain ⟨v,hv,hfv⟩:=List.countP_pos_iff.1 hc
  rw [List.mem_range] at hv
  have hfv':fix v = false:=by simpa using hfv
  have hlen:=hN.len v hv
  have hmem:u[v].f1[0]'(by omega) ∈ u[v].f1:=List.getElem_mem _
  have hq:=hN.pipe v hv _ hmem
  generalize u[v].f1[0]'(by omega) = q at hmem hq
  have hh:(netOf p u).has v q.toNat = true:=by
   rw [has_eq hN hv,Int.toNat_of_nonneg hq.1]
   exact decide_eq_true hmem
  have:=(W_pos_iff hN hF).1 (W_pos (wpos hN) hv hh hfv')
  exact absurd (hB q.toNat (by omega)) this
theorem raise_l0 {z:S23} {q:Nat} (hq:q < p.length):∀ d i,i + d = u.length → Ev (fun k=>shares_net_fair_1.l0 k (q:Int) (wN (netOf p u) u fix q i:Int) (u.length:Int) (i:Int) p u (tab u.length fix) (rts u.length z fix r) (lf (netOf p u) fix r q i).num ((lf (netOf p u) fix r q i).den:Int)) (raiseV p u fix r q):=by
 intro d
 have h6:=hN.u6
 induction d with
 | zero =>
  intro i hi
  obtain rfl:i = u.length:=by omega
  unfold raiseV
  by_cases hw:wN (netOf p u) u fix q u.length = 0
  ·rw [if_pos hw]
   refine Ev.step (f:=fun _=>some (0,0,false)) (fun k=>?_) (Ev.now _)
   rw [shares_net_fair_1.l0,if_neg (by omega),if_pos (by omega)]
  ·rw [if_neg hw]
   have hln:=lf_num hN hF hq (i:=u.length) (Nat.le_refl _)
   have hwl:=wN_cnt hN fix q u.length (Nat.le_refl _)
   have hcm:=cnt_m u.length fix
   have hm:(lf (netOf p u) fix r q u.length).den * wN (netOf p u) u fix q u.length ≤ 2949120 * 24:=Nat.mul_le_mul hln.2 (by omega)
   have ho:=ev_over (lf (netOf p u) fix r q u.length) (n:=wN (netOf p u) u fix q u.length) (by omega) (by omega) (by omega)
   refine Ev.step (fun k=>by rw [shares_net_fair_1.l0,if_neg (by omega),if_neg (by omega)]) (Ev.bind ho (Ev.now _))
 | succ d ih =>
  intro i hi
  have hil:i < u.length:=by omega
  have hn:=ih (i + 1) (by omega)
  rw [lf_succ,wN] at hn
  refine Ev.step (fun k=>by rw [shares_net_fair_1.l0,if_pos (by omega),tab_length,rts,tab_length,tab_b hil,tab_T hil,wrap_succ (by omega)]) (Ev.bind (ev_hasN hN hil q) ?_)
  by_cases hh:(netOf p u).has i q = true
  ·rw [hh] at hn ⊢
   refine Ev.congr (fun k=>if_pos rfl) (Ev.congr (fun k=>if_pos (by omega)) (Ev.congr (fun k=>if_pos (by omega)) ?_))
   by_cases hf:fix i = true
   ·rw [hf] at hn ⊢
    rw [if_pos (show (true && true) = true from rfl),if_neg (show ¬ (true && !true) = true by decide)] at hn
    refine Ev.congr (fun k=>if_pos rfl) (Ev.congr (fun k=>if_pos (by omega)) (Ev.bind (ev_minus (lf_fits hN hF hq hil hf)) hn))
   ·have hf':fix i = false:=by simpa using hf
    rw [hf'] at hn ⊢
    rw [if_neg (show ¬ (true && false) = true by decide),if_pos (show (true && !false) = true from rfl)] at hn
    refine Ev.congr (fun k=>if_neg (by decide)) (Ev.congr (fun k=>if_pos (by omega)) ?_)
    obtain ⟨_,e2,_,e4⟩:=w_nat hN hil
    have hwl:=wN_cnt hN fix q i (by omega)
    have hcm:=cnt_m i fix
    have ew:wrap64 ((wN (netOf p u) u fix q i:Int) + (rd_T45 u (i:Int)).f0) = ((wN (netOf p u) u fix q i + (rd_T45 u (i:Int)).f0.toNat:Nat):Int):=by
     rw [wrap_id (by omega) (by omega)]
     omega
    rw [ew]
    exact hn
  ·have hh':(netOf p u).has i q = false:=by simpa using hh
   rw [hh'] at hn ⊢
   rw [if_neg (show ¬ (false && !fix i) = true by simp),if_neg (show ¬ (false && fix i) = true by simp)] at hn
   exact Ev.congr (fun k=>if_neg (by decide)) hn
theorem ev_raise {z:S23} {q:Nat} (hq:q < p.length):Ev (fun k=>shares_net_fair_1.f k (q:Int) p u (tab u.length fix) (rts u.length z fix r)) (raiseV p u fix r q):=by
 unfold shares_net_fair_1.f shares_whole.f
 refine Ev.congr (fun k=>if_pos (by omega)) (Ev.congr (fun k=>if_pos (by omega)) ?_)
 simp only [Option.bind_some]
 have h:=raise_l0 hN hF (z:=z) hq u.length 0 (by omega)
 have e:lf (netOf p u) fix r q 0 = ((rd p (q:Int):Int):Rat):=by
  unfold lf;rw [S_nil]
  show ((rd p (q:Int):Int):Rat) - 0 = _
  grind
 rw [e,whole_num,whole_den] at h
 exact h
theorem fair_l1 {z:S23} {v:List S23}:∀ d i b,i + d = p.length → Best p u fix r i b → Ev (fun k=>shares_net_fair.l2 k (bP (srch p u fix r d i b)).1 (u.length:Int) 0 p u (rts u.length z fix r) (tab u.length fix) (bP (srch p u fix r d i b)).2.1 (bP (srch p u fix r d i b)).2.2) v →
  Ev (fun k=>shares_net_fair.l1 k (bP b).1 (p.length:Int) (i:Int) p u (rts u.length z fix r) (tab u.length fix) (bP b).2.1 (bP b).2.2) v:=by
 intro d
 have h5:=hN.p5
 induction d with
 | zero =>
  intro i b hi hB hv
  refine Ev.step (fun k=>?_) hv
  rw [shares_net_fair.l1,if_neg (by omega)];rfl
 | succ d ih =>
  intro i b hi hB hv
  have hil:i < p.length:=by omega
  have hn:=ih (i + 1) (better p u fix r i b) (by omega) (hB.next hil) hv
  refine Ev.step (fun k=>by rw [shares_net_fair.l1,if_pos (by omega),wrap_succ (by omega)]) (Ev.bind (ev_raise hN hF (z:=z) hil) ?_)
  unfold raiseV
  unfold better at hn
  by_cases hw:wN (netOf p u) u fix i u.length = 0
  ·rw [if_pos hw] at hn ⊢
   exact Ev.congr (fun k=>if_neg (by decide)) hn
  ·rw [if_neg hw] at hn ⊢
   refine Ev.congr (fun k=>if_pos rfl) ?_
   cases b with
   | none=>exact Ev.congr (fun k=>if_pos (by decide)) hn
   | some am =>
    obtain ⟨h1,h2,h3,_⟩:=hB
    have hc:=ev_compare (mu_fits hN hF hil hw h1 h2)
    rw [← h3] at hc
    refine Ev.congr (fun k=>if_neg (show ¬ ((am.1:Int) < 0) by omega)) (Ev.bind hc ?_)
    have hn':Ev (fun k=>shares_net_fair.l1 k (bP (if muq p u fix r i < am.2 then some (i,muq p u fix r i) else some am)).1 (p.length:Int) ((i + 1:Nat):Int) p u (rts u.length z fix r) (tab u.length fix) (bP (if muq p u fix r i < am.2 then some (i,muq p u fix r i) else some am)).2.1 (bP (if muq p u fix r i < am.2 then some (i,muq p u fix r i) else some am)).2.2) v:=hn
    by_cases hlt:muq p u fix r i < am.2
    ·rw [if_pos hlt] at hn'
     exact Ev.congr (fun k=>if_pos ((cmpR_lt _ _).2 hlt)) hn'
    ·rw [if_neg hlt] at hn'
     exact Ev.congr (fun k=>if_neg (fun h=>hlt ((cmpR_lt _ _).1 h))) hn'
theorem fair_l2 {z:S23} {v:List S23} {am:Nat × Rat} (hB:Best p u fix r p.length (some am)) (hv:Ev (fun k=>shares_net_fair.l0 k p u (rts u.length z (fixN p u fix am.1) (rN p u fix r am.1 am.2)) (tab u.length (fixN p u fix am.1))) v):∀ d i,i + d = u.length →
  Ev (fun k=>shares_net_fair.l2 k (am.1:Int) (u.length:Int) (i:Int) p u (rts u.length z (fixI p u fix am.1 i) (rI p u fix r am.1 am.2 i)) (tab u.length (fixI p u fix am.1 i)) am.2.num (am.2.den:Int)) v:=by
 intro d
 have h6:=hN.u6
 induction d with
 | zero =>
  intro i hi
  obtain rfl:i = u.length:=by omega
  rw [last_lists.1,(last_lists (r:=r) (z:=z) (m:=am.2)).2]
  refine Ev.step (fun k=>?_) hv
  rw [shares_net_fair.l2,if_neg (by omega)]
 | succ d ih =>
  intro i hi
  have hil:i < u.length:=by omega
  have hn:=ih (i + 1) (by omega)
  have hlr:(rts u.length z (fixI p u fix am.1 i) (rI p u fix r am.1 am.2 i)).length = u.length:=tab_length _ _
  have hfi:fixI p u fix am.1 i i = fix i:=by unfold fixI;rw [if_neg (by omega)]
  refine Ev.step (fun k=>by rw [shares_net_fair.l2,if_pos (by omega),if_pos (by omega),tab_length,if_pos (by omega),tab_b hil,hfi,hlr,wrap_succ (by omega)]) ?_
  by_cases hf:fix i = true
  ·rw [(next_same (fun h=>by rw [hf] at h;cases h.1)).1,(next_same (r:=r) (z:=z) (m:=am.2) (fun h=>by rw [hf] at h;cases h.1)).2] at hn
   exact Ev.congr (fun k=>if_pos hf) hn
  ·have hf':fix i = false:=by simpa using hf
   refine Ev.congr (fun k=>if_neg hf) (Ev.bind (ev_hasN hN hil am.1) ?_)
   by_cases hh:(netOf p u).has i am.1 = true
   ·rw [(next_set ⟨hf',hh⟩).1,(next_set (r:=r) (z:=z) (m:=am.2) ⟨hf',hh⟩).2] at hn
    obtain ⟨h1,h2,h3,_⟩:=hB
    have hmu:=mu_num hN hF h1 h2
    rw [← h3] at hmu
    obtain ⟨_,e2,_,e4⟩:=w_nat hN hil
    have ht:=ev_times am.2 (n:=(rd_T45 u (i:Int)).f0) (by
     rw [Int.natAbs_mul]
     exact Nat.lt_of_le_of_lt (Nat.mul_le_mul hmu.1 (show (rd_T45 u (i:Int)).f0.natAbs ≤ 4 by omega)) (by decide)) (by omega)
    exact Ev.congr (fun k=>if_pos hh) (Ev.congr (fun k=>if_pos (by omega)) (Ev.bind ht (Ev.congr (fun k=>if_pos (by omega)) hn)))
   ·rw [(next_same (fun h=>hh h.2)).1,(next_same (r:=r) (z:=z) (m:=am.2) (fun h=>hh h.2)).2] at hn
    exact Ev.congr (fun k=>if_neg hh) hn
end
theorem index_b {m:Nat} (hm:m ≤ 1000000) (fix:Nat → Bool):∀ d i,i + d = m → ∃ r:Int,(0 ≤ r ↔ ∃ v,i ≤ v ∧ v < m ∧ fix v = false) ∧ Ev (fun k=>slices_Index_bool_bool.l0 k (tab m fix) false (m:Int) (i:Int)) r:=by
 intro d
 induction d with
 | zero =>
  intro i hi
  refine ⟨-1,⟨fun h=>by omega,fun ⟨v,h1,h2,_⟩=>by omega⟩,Ev.step (f:=fun _=>some (-1)) (fun k=>?_) (Ev.now _)⟩
  rw [slices_Index_bool_bool.l0,if_neg (by omega)]
 | succ d ih =>
  intro i hi
  have hil:i < m:=by omega
  cases hf:fix i with
  | false =>
   refine ⟨(i:Int),⟨fun _=>⟨i,Nat.le_refl _,hil,hf⟩,fun _=>by omega⟩,Ev.step (f:=fun _=>some (i:Int)) (fun k=>?_) (Ev.now _)⟩
   rw [slices_Index_bool_bool.l0,if_pos (by omega),if_pos (by omega),tab_length,if_pos (by omega),tab_b hil,hf,if_pos (by decide)]
  | true =>
   obtain ⟨r,h1,h2⟩:=ih (i + 1) (by omega)
   refine ⟨r,h1.trans ⟨fun ⟨v,a,b,c⟩=>⟨v,by omega,b,c⟩,fun ⟨v,a,b,c⟩=>⟨v,?_,b,c⟩⟩,Ev.step (fun k=>?_) h2⟩
   ·by_cases e:v = i
    ·subst e;rw [hf] at c;cases c
    ·omega
   ·rw [slices_Index_bool_bool.l0,if_pos (by omega),if_pos (by omega),tab_length,if_pos (by omega),tab_b hil,hf,if_neg (by decide),wrap_succ (by omega)]
theorem ev_contains_b {m:Nat} (hm:m ≤ 1000000) (fix:Nat → Bool):Ev (fun k=>slices_Contains_bool_bool.f k (tab m fix) false) (decide (0 < cnt m fix)):=by
 obtain ⟨r,h1,h2⟩:=index_b hm fix m 0 (by omega)
 unfold slices_Contains_bool_bool.f slices_Index_bool_bool.f
 rw [tab_length]
 refine Ev.bind h2 ?_
 have e:decide (r ≥ 0) = decide (0 < cnt m fix):=by
  rw [decide_eq_decide]
  refine h1.trans ⟨fun ⟨v,_,hv,hf⟩=>cnt_pos hv hf,fun h=>?_⟩
  obtain ⟨v,hv,hf⟩:=List.countP_pos_iff.1 h
  exact ⟨v,Nat.zero_le _,List.mem_range.1 hv,by simpa using hf⟩
 rw [e]
 exact Ev.now _
structure FairR (p:List Int) (u:List S45) (x:List Rat):Prop where
 len:x.length = u.length
 fair:(netOf p u).Fair (rt x)
 bd:∃ D,0 < D ∧ D ≤ 2949120 ∧ ∀ v,v < u.length → 0 ≤ rt x v ∧ rt x v ≤ ((200:Nat):Rat) ∧ (rt x v).den ∣ D
theorem load_congr {N:Net} {r s:Nat → Rat} (h:∀ v,v < N.m → r v = s v) (q:Nat):N.load r q = N.load s q:=S_congr fun v hv=>by rw [h v hv]
theorem Fair_congr {N:Net} {r s:Nat → Rat} (h:∀ v,v < N.m → r v = s v) (hr:N.Fair r):N.Fair s:=by
 refine ⟨fun q hq=>by rw [← load_congr h];exact hr.1 q hq,fun v hv=>?_⟩
 obtain ⟨q,h1,h2,h3,h4⟩:=hr.2 v hv
 refine ⟨q,h1,h2,by rw [← load_congr h];exact h3,fun w hw hh=>?_⟩
 rw [← h v hv,← h w hw]
 exact h4 w hw hh
section
variable {p:List Int} {u:List S45} (hN:IsN p u)
include hN
theorem FS.done {fix:Nat → Bool} {r:Nat → Rat} {lam:Rat} {D:Nat} (hF:FS p u fix r lam D) (hc:¬ 0 < cnt u.length fix) (z:S23):FairR p u (tab u.length r) ∧ rts u.length z fix r = encL (tab u.length r):=by
 have hall:=cnt_zero (m:=u.length) (fix:=fix) (by omega)
 refine ⟨⟨tab_length _ _,?_,D,hF.d0,hF.D_le hN,fun v hv=>?_⟩,?_⟩
 ·exact Fair_congr (fun v hv=>(rt_tab hv).symm) (hF.fill.fair hall)
 ·rw [rt_tab hv];exact hF.rb v hv (hall v hv)
 ·rw [encL_tab];exact tab_congr fun v hv=>by rw [if_pos (hall v hv)]
theorem fair_l0 (z:S23):∀ c (fix:Nat → Bool) (r:Nat → Rat) (lam:Rat) (D:Nat),FS p u fix r lam D → cnt u.length fix ≤ c → ∃ x,FairR p u x ∧ Ev (fun k=>shares_net_fair.l0 k p u (rts u.length z fix r) (tab u.length fix)) (encL x):=by
 intro c
 have h6:=hN.u6
 induction c with
 | zero =>
  intro fix r lam D hF hc
  obtain ⟨h1,h2⟩:=hF.done hN (by omega) z
  refine ⟨_,h1,?_⟩
  rw [h2]
  refine Ev.step (fun k=>by rw [shares_net_fair.l0]) (Ev.bind (ev_contains_b (by omega) fix) ?_)
  rw [decide_eq_false (by omega)]
  exact Ev.congr (fun k=>if_neg (by decide)) (Ev.now _)
 | succ c ih =>
  intro fix r lam D hF hc
  by_cases h0:0 < cnt u.length fix
  ·obtain ⟨am,hs,hB⟩:=some_best hN hF h0
   obtain ⟨hF2,hlt⟩:=hF.next hN hB
   obtain ⟨x,hx,hv⟩:=ih _ _ _ _ hF2 (by omega)
   refine ⟨x,hx,Ev.step (fun k=>by rw [shares_net_fair.l0]) (Ev.bind (ev_contains_b (by omega) fix) ?_)⟩
   rw [decide_eq_true h0]
   refine Ev.congr (fun k=>if_pos rfl) (fair_l1 hN hF p.length 0 none (by omega) (fun q hq=>by omega) ?_)
   rw [hs]
   have h:=fair_l2 hN hF hB hv u.length 0 (by omega)
   rw [first_lists.1,(first_lists (r:=r) (z:=z) (m:=am.2)).2] at h
   exact h
  ·exact ih fix r lam D hF (by omega)
theorem FS.start (r:Nat → Rat):FS p u (fun _=>false) r 0 1 where
 fill:=Net.Fill.start (fun q hq=>(cap_bd hN hq).1) r
 lam0:=Rat.le_refl
 rb:=fun v _ h=>by cases h
 d0:=Nat.one_pos
 dd:=by
  have h6:=hN.u6
  have h1:=cnt_m u.length (fun _=>false)
  have h2:=dens_mono (a:=cnt u.length (fun _=>false)) (b:=6) (by omega)
  rw [dens_six] at h2
  omega
theorem ev_fair:∃ x,FairR p u x ∧ Ev (fun k=>shares_net_fair.f k p u) (encL x):=by
 have h6:=hN.u6
 obtain ⟨x,hx,hv⟩:=fair_l0 hN z23 (cnt u.length (fun _=>false)) (fun _=>false) (fun _=>0) 0 1 (FS.start hN _) (Nat.le_refl _)
 refine ⟨x,hx,?_⟩
 unfold shares_net_fair.f
 refine Ev.congr (fun k=>if_pos (by omega)) (Ev.congr (fun k=>if_pos (by omega)) (Ev.congr (fun k=>if_pos (by omega)) ?_))
 rw [Int.toNat_natCast,tab_rep,tab_rep]
 exact hv
end
end Go.Proofs.Ytjohcjfmlhihbaa.P
set_option linter.unusedSectionVars false
namespace Go.Proofs.Ytjohcjfmlhihbaa.P
open Go Go.RowKit Go.Proofs.Ytjohcjfmlhihbaa.G
open Go.Proofs.YtjohcjfmlhihbaaW.PrintWords Go.Proofs.YtjohcjfmlhihbaaW.PrintMore
section
variable {p:List Int} {u:List S45} (hN:IsN p u)
include hN
theorem FairR.eq {x y:List Rat} (hx:FairR p u x) (hy:FairR p u y):x = y:=by
 have h:=Net.unique (wpos hN) hx.fair hy.fair
 apply List.ext_getElem
 ·rw [hx.len,hy.len]
 ·intro i h1 h2
  have:=h i (by have:=hx.len;show i < u.length;omega)
  rwa [rt_get h1,rt_get h2] at this
theorem fair_part {x:List Rat} {D:Nat} (d0:0 < D) (hb:∀ v,v < u.length → 0 ≤ rt x v ∧ rt x v ≤ ((200:Nat):Rat) ∧ (rt x v).den ∣ D) (q:Nat):∀ i,i ≤ u.length → (part (netOf p u) (rt x) q i).den ∣ D ∧ 0 ≤ part (netOf p u) (rt x) q i ∧ part (netOf p u) (rt x) q i ≤ ((200 * i:Nat):Rat)
 | 0,_=>⟨by rw [show part (netOf p u) (rt x) q 0 = 0 from rfl];exact Nat.one_dvd _,Rat.le_refl,by rw [show part (netOf p u) (rt x) q 0 = 0 from rfl];exact Rat.natCast_nonneg⟩
 | i + 1,h=>by
  obtain ⟨h1,h2,h3⟩:=fair_part d0 hb q i (by omega)
  obtain ⟨a,b,c⟩:=hb i (by omega)
  have e:((200 * (i + 1):Nat):Rat) = ((200 * i:Nat):Rat) + ((200:Nat):Rat):=by push_cast;grind
  have z:(0:Rat) ≤ ((200:Nat):Rat):=Rat.natCast_nonneg
  rw [part_succ,e]
  split
  ·exact ⟨add_den_dvd' h1 c d0,by grind,by grind⟩
  ·exact ⟨h1,h2,by grind⟩
theorem FairR.ok {x:List Rat} (hx:FairR p u x):OkR p u x:=by
 obtain ⟨D,d0,dD,hb⟩:=hx.bd
 have h6:=hN.u6
 have z:∀ n:Nat,(0:Rat) ≤ (n:Rat):=fun n=>Rat.natCast_nonneg
 have sm:∀ {q:Rat} {B:Nat},0 ≤ q → q ≤ (B:Rat) → q.den ≤ 2949120 → q.num.natAbs ≤ B * 2949120:=fun {q B} h0 h1 hd=>by
  have h5:=num_bound (B:=B) (by have:=z B;grind) h1
  exact Nat.le_trans h5 (Nat.mul_le_mul_left _ hd)
 have hr:∀ i,i < u.length → (rt x i).num.natAbs ≤ 589824000 ∧ (rt x i).den ≤ 2949120:=fun i hi=>by
  obtain ⟨a,b,c⟩:=hb i hi
  have hd:(rt x i).den ≤ 2949120:=Nat.le_trans (Nat.le_of_dvd d0 c) dD
  have:=sm a b hd
  exact ⟨by omega,hd⟩
 have hl:∀ i,i < u.length → (rt x i / (netOf p u).w i).num.natAbs ≤ 2359296000 ∧ (rt x i / (netOf p u).w i).den ≤ 11796480:=fun i hi=>by
  obtain ⟨e1,_,e3,e4⟩:=w_nat hN hi
  obtain ⟨a,b,c⟩:=hb i hi
  rw [e1]
  have n0:0 < (rd_T45 u (i:Int)).f0.toNat:=by omega
  have h1:=Nat.le_of_dvd (Nat.mul_pos (den_pos _) n0) (over_den (rt x i) n0)
  have h2:(rt x i).den * (rd_T45 u (i:Int)).f0.toNat ≤ 2949120 * 4:=Nat.mul_le_mul (hr i hi).2 e4
  have h3:=over_le n0 a
  have h5:=num_bound (B:=200) (by have:=z 200;grind) (Rat.le_trans h3.2 b)
  have h7:200 * (rt x i / (((rd_T45 u (i:Int)).f0.toNat:Nat):Rat)).den ≤ 200 * 11796480:=Nat.mul_le_mul_left _ (by omega)
  exact ⟨by omega,by omega⟩
 have fits:∀ {a b:Rat} {A B D E:Nat},a.num.natAbs ≤ A → a.den ≤ D → b.num.natAbs ≤ B → b.den ≤ E → A * E + B * D < 9223372036854775808 → D * E < 9223372036854775808 → Fits a b:=fun a1 a2 b1 b2 h h2 =>
  ⟨Nat.lt_of_le_of_lt (Nat.add_le_add (Nat.mul_le_mul a1 b2) (Nat.mul_le_mul b1 a2)) h,Nat.lt_of_le_of_lt (Nat.mul_le_mul a2 b2) h2⟩
 refine ⟨hx.len,fun q i hi=>?_,fun i j hi hj=>?_,fun i hi=>?_,fun i hi=>?_⟩
 ·obtain ⟨h1,h2,h3⟩:=fair_part hN d0 hb q i (by omega)
  have hd:(part (netOf p u) (rt x) q i).den ≤ 2949120:=Nat.le_trans (Nat.le_of_dvd d0 h1) dD
  have h4:=sm h2 (Rat.le_trans h3 (Rat.natCast_le_natCast.2 (by omega:200 * i ≤ 1200))) hd
  exact fits (A:=3538944000) (by omega) hd (hr i hi).1 (hr i hi).2 (by decide) (by decide)
 ·exact fits (hl i hi).1 (hl i hi).2 (hl j hj).1 (hl j hj).2 (by decide) (by decide)
 ·exact Nat.lt_of_le_of_lt (hr i hi).1 (by decide)
 ·have:=(hr i hi).2;omega
end
end Go.Proofs.Ytjohcjfmlhihbaa.P
namespace Go.Proofs.Ytjohcjfmlhihbaa.G
open Go.RowKit Go.Proofs.YtjohcjfmlhihbaaW.PrintWords Go.Proofs.YtjohcjfmlhihbaaW.PrintLast Go.Proofs.YtjohcjfmlhihbaaW.PrintMore
set_option maxHeartbeats 8000000
set_option maxRecDepth 100000
attribute [local go_sem] cond_true cond_false fld23_0 fld23_1 fld45_0 fld45_1 fld109_0 fld109_1 fld94_0 fld94_1 max2_int min2_int max_two min_two max_three min_three max_four min_four
attribute [local go_sem high] eqA23
def shares_Fair.l0:Nat → List (S23) → List Int → Int → Int → List Int → List (S45) → Option ((List (S23)) × List Int × Int)
 | 0,_,_,_,_,_,_=>none
 | k + 1,x9,h4,x23,h5,b8,b9=>if h5 < x23 then ((shares_net_held.f k b8 b9 x9 h5).bind fun b7=>(if h4.length < 17592186044416 then (shares_Fair.l0 k x9 (h4 ++ [b7]) x23 (wrap64 (h5 + 1)) b8 b9) else (none))) else (some (x9,h4,0))
def shares_Fair.f (k:Nat) (l0:List Int) (l1:List (S45)):Option ((List (S23)) × List Int × Int):=(shares_newNet.f k l0 l1).bind fun d1=>(if d1 = true then ((shares_net_fair.f k l0 l1).bind fun b1=>(shares_Fair.l0 k b1 ([]:List Int) (l1.length:Int) 0 l0 l1)) else (some (([]:List (S23)),([]:List Int),2)))
theorem shares_Fair.mono_l:∀ k,(∀ y0 y1 y2 y3 y4 y5,LeO (shares_Fair.l0 k y0 y1 y2 y3 y4 y5) (shares_Fair.l0 (k + 1) y0 y1 y2 y3 y4 y5))
 | 0=>fun _ _ _ _ _ _ r h=>by simp [shares_Fair.l0] at h
 | k + 1=>by
  have h6:=shares_Fair.mono_l k
  intro y0 y1 y2 y3 y4 y5
  unfold shares_Fair.l0
  repeat' first
  | (with_reducible first | exact h6 _ _ _ _ _ _ | exact shares_net_fair.mono _ _ _ | exact shares_net_held.mono _ _ _ _ _ | exact shares_newNet.mono _ _ _ | exact LeO.refl _ | exact LeO.none _ | refine LeO.ite ?_ ?_ | refine LeO.bind ?_ (fun _=>?_))
  | exact LeO.none _ | refine LeO.ite ?_ ?_ | refine LeO.bind ?_ (fun _=>?_)
theorem shares_Fair.mono:∀ a0 a1 k,LeO (shares_Fair.f k a0 a1) (shares_Fair.f (k + 1) a0 a1):=by
 intro a0 a1 k
 have h6:=shares_Fair.mono_l k
 unfold shares_Fair.f
 repeat' first
   | (with_reducible first | exact h6 _ _ _ _ _ _ | exact shares_net_fair.mono _ _ _ | exact shares_net_held.mono _ _ _ _ _ | exact shares_newNet.mono _ _ _ | exact LeO.refl _ | exact LeO.none _ | refine LeO.ite ?_ ?_ | refine LeO.bind ?_ (fun _=>?_))
   | exact LeO.none _ | refine LeO.ite ?_ ?_ | refine LeO.bind ?_ (fun _=>?_)
theorem shares_Fair.calls (k:Nat) (A0:Option Addr) (c0:Nat) (l0:List Int) (A1:Option Addr) (c1:Nat) (l1:List (S45)) (r1:List (S23)) (r2:List Int) (r3:Int) (w:World) (i6:Kd.C (Kd.int .i64) w A0 l0.length l0) (i7:l0.length ≤ c0) (i8:Kd.C k45 w A1 l1.length l1) (i9:l1.length ≤ c1) (h:shares_Fair.f k l0 l1 = some (r1,r2,r3)) :
  Calls Try.prog 32 #[.slice A0 l0.length c0,.slice A1 l1.length c1] w fun e w'=>∃ j5 j7:Value,e = .returned (.tuple #[j5,j7,.int .i64 r3]) ∧ Kd.R k23 23 w' w.heap.size (fun _=>True) j5 r1 ∧ Kd.R (Kd.int .i64) 3 w' w.heap.size (fun _=>True) j7 r2 ∧ Below w.heap.size w w':=by
 have j8:=Try.underlying109
 have e2:=A_ i6
 have e3:=A_ i7
 clear i6 i7
 have e4:=A_ i8
 have e5:=A_ i9
 clear i8 i9
 have HB:=A_ (Below.refl w.heap.size w)
 have H:((shares_newNet.f k l0 l1).bind fun d1=>(if d1 = true then ((shares_net_fair.f k l0 l1).bind fun b1=>(shares_Fair.l0 k b1 ([]:List Int) (l1.length:Int) 0 l0 l1)) else (some (([]:List (S23)),([]:List Int),2)))) = some (r1,r2,r3):=h
 clear h
 replace H:=Option.bind_eq_some_iff.mp H
 obtain ⟨d1,j9,H⟩:=H
 replace H:(if d1 = true then ((shares_net_fair.f k l0 l1).bind fun b1=>(shares_Fair.l0 k b1 ([]:List Int) (l1.length:Int) 0 l0 l1)) else (some (([]:List (S23)),([]:List Int),2))) = some (r1,r2,r3):=H
 have A3:=A_ j9
 clear j9
 by_cases c4:d1 = true
 case neg =>
  replace c4:=Bool.eq_false_iff.mpr c4
  subst c4
  rw [if_neg (show ¬ (false = true) by decide)] at H
  simp only [Option.some.injEq,Prod.mk.injEq] at H
  obtain ⟨rfl,rfl,rfl⟩:=H
  go_enter Try.func32,Try.ntmps32
  go_wp2_with (first | ((with_reducible refine gate_callee (f:=70) rfl ?_);refine gL (some 15) Try.func70 #[.slice A0 l0.length c0,.slice A1 l1.length c1] ?_;(with_reducible refine (shares_newNet.calls k _ _ l0 _ _ l1 false _ ?side1 ?side2 ?side3 ?side4 A3.out).mono ?_);(case side1=>repeat (first | exact e2.out | (with_reducible refine Kd.C_alloc ?_ _) | (with_reducible refine Kd.C_drewN ?_ _) | (with_reducible refine Kd.C_drew ?_)));(case side2=>exact e3.out);(case side3=>repeat (first | exact e4.out | (with_reducible refine Kd.C_alloc ?_ _) | (with_reducible refine Kd.C_drewN ?_ _) | (with_reducible refine Kd.C_drew ?_)));(case side4=>exact e5.out);rintro e m6 ⟨rfl,hb⟩;refine ⟨_,rfl,?_⟩;replace HB:=bB HB hb;(try clear hb)) | ((with_reducible refine gate_dst (N:=7) rfl ?_);refine bx 7 #[.slice none 0 0,.slice none 0 0] 109 ?_;intro d3 hg l5 hbox hb;have d0:=A_ hbox;have d4:=gw hg HB;have l6:=d4;replace HB:=bB HB hb;clear hb hbox hg;have e6:l5.cell? ⟨d3,0,none⟩ = some (.slice none 0 0):=cz d0 0;have e7:l5.cell? ⟨d3,1,none⟩ = some (.slice none 0 0):=cz d0 1;have e8:=blk_frozen d0.out 0;have e9:=blk_frozen d0.out 1))
  go_ret3
  exact ⟨_,_,rfl,by first | exact Kd.R_nil _ _ _ _ _ | exact Kd.N_nil _ _ _ _ _ | exact Kd.V_nil _ _ _ _ _ | exact Kd.Q_nil _ _ _ _ _ | exact Kd.S_nil _ _ _ _ _,by first | exact Kd.R_nil _ _ _ _ _ | exact Kd.N_nil _ _ _ _ _ | exact Kd.V_nil _ _ _ _ _ | exact Kd.Q_nil _ _ _ _ _ | exact Kd.S_nil _ _ _ _ _,bl HB⟩
 subst c4
 rw [if_pos rfl] at H
 replace H:=Option.bind_eq_some_iff.mp H
 obtain ⟨b1,l7,H⟩:=H
 replace H:(shares_Fair.l0 k b1 ([]:List Int) (l1.length:Int) 0 l0 l1) = some (r1,r2,r3):=H
 have A5:=A_ l7
 clear l7
 have H':=A_ H
 clear H
 go_enter Try.func32,Try.ntmps32
 go_wp2_with (first | ((with_reducible refine gate_callee (f:=70) rfl ?_);refine gL (some 15) Try.func70 #[.slice A0 l0.length c0,.slice A1 l1.length c1] ?_;(with_reducible refine (shares_newNet.calls k _ _ l0 _ _ l1 true _ ?side1 ?side2 ?side3 ?side4 A3.out).mono ?_);(case side1=>repeat (first | exact e2.out | (with_reducible refine Kd.C_alloc ?_ _) | (with_reducible refine Kd.C_drewN ?_ _) | (with_reducible refine Kd.C_drew ?_)));(case side2=>exact e3.out);(case side3=>repeat (first | exact e4.out | (with_reducible refine Kd.C_alloc ?_ _) | (with_reducible refine Kd.C_drewN ?_ _) | (with_reducible refine Kd.C_drew ?_)));(case side4=>exact e5.out);rintro e w6 ⟨rfl,hb⟩;refine ⟨_,rfl,?_⟩;replace HB:=bB HB hb;(try clear hb)) | ((with_reducible refine gate_dst (N:=7) rfl ?_);refine bx 7 #[.slice none 0 0,.slice none 0 0] 109 ?_;intro b3 hg w7 hbox hb;have b0:=A_ hbox;have d5:=gw hg HB;have l8:=d5;replace HB:=bB HB hb;clear hb hbox hg;have h7:w7.cell? ⟨b3,0,none⟩ = some (.slice none 0 0):=cz b0 0;have h8:w7.cell? ⟨b3,1,none⟩ = some (.slice none 0 0):=cz b0 1;have h9:=blk_frozen b0.out 0;have i0:=blk_frozen b0.out 1) | ((with_reducible refine gate_callee (f:=71) rfl ?_);refine gL (some 21) Try.func71 #[.agg #[.slice A0 l0.length c0,.slice A1 l1.length c1]] ?_;(with_reducible refine (shares_net_fair.calls k _ _ l0 _ _ l1 b1 _ ?side1 ?side2 ?side3 ?side4 A5.out).mono ?_);(case side1=>exact Kd.C_below e2.out (bl HB));(case side2=>exact e3.out);(case side3=>exact Kd.C_below e4.out (bl HB));(case side4=>exact e5.out);rintro e w9 ⟨i1,rfl,m1,hb⟩;refine ⟨_,rfl,?_⟩;have d6:=A_ (Kd.R_lower m1 (below_size (bl HB)));replace b0:=A_ (blk_below (g:=b3) (o:=.cells #[.slice A0 l0.length c0,.slice A1 l1.length c1] 109 (0,0)) (by (with_reducible repeat (first | refine blk_drewN ?_ _ | refine blk_drew ?_ | refine blk_alloc ?_ _));refine blk_put (cs:=#[.slice A0 l0.length c0,.slice none 0 0]) ?_ 1 _ rfl;(with_reducible repeat (first | refine blk_drewN ?_ _ | refine blk_drew ?_ | refine blk_alloc ?_ _));refine blk_put (cs:=#[.slice none 0 0,.slice none 0 0]) ?_ 0 _ rfl;(with_reducible repeat (first | refine blk_drewN ?_ _ | refine blk_drew ?_ | refine blk_alloc ?_ _));exact b0.out) hb);replace HB:=bB HB hb;(try clear hb)))
 go_loopg [10,24] k (fun kq m2 m3 w'=>∃ (b4:List Int) (b2:Int),m3 = .int .i64 b2 ∧ Aside0 (shares_Fair.l0 kq b1 b4 (l1.length:Int) b2 l0 l1 = some (r1,r2,r3)) ∧ Aside0 (kq ≤ k) ∧ Aside0 (Kd.R k23 23 w' w.heap.size (fun _=>True) i1 b1) ∧ Aside0 (Kd.R (Kd.int .i64) 3 w' w.heap.size (fun _=>True) m2 b4) ∧ Aside0 (w'.heap[b3]? = some (.cells #[(.slice A0 l0.length c0),(.slice A1 l1.length c1)] 109 (0,0))) ∧ Aside0 (Below w.heap.size w w'))
 case atStart=>exact ⟨(([]:List Int)),(0),rfl,H',⟨Nat.le_refl _⟩,⟨by (with_reducible repeat (first | apply Kd.R_alloc | apply Kd.R_drewN | apply Kd.R_drew));exact d6.out⟩,⟨by first | exact Kd.R_nil _ _ _ _ _ | exact Kd.N_nil _ _ _ _ _ | exact Kd.V_nil _ _ _ _ _ | exact Kd.Q_nil _ _ _ _ _ | exact Kd.S_nil _ _ _ _ _⟩,⟨by (with_reducible repeat (first | refine blk_drewN ?_ _ | refine blk_drew ?_ | refine blk_alloc ?_ _));exact b0.out⟩,⟨bl HB⟩⟩
 case round =>
  clear H'
  obtain ⟨b4,b2,rfl,HA,l9,b6,b5,b0,HB⟩:=hrel
  cases gk with
  | zero=>exact absurd HA.out (by simp [shares_Fair.l0])
  | succ k1 =>
   have H:=HA.out
   clear HA
   simp only [shares_Fair.l0] at H
   by_cases c10:b2 < (l1.length:Int)
   case neg =>
    rw [if_neg c10] at H
    have d7:=decide_eq_false c10
    clear c10
    simp only [Option.some.injEq,Prod.mk.injEq] at H
    obtain ⟨rfl,rfl,rfl⟩:=H
    go_wp2
    go_ret3
    exact ⟨_,_,rfl,by (with_reducible repeat (first | apply Kd.R_alloc | apply Kd.R_drewN | apply Kd.R_drew));exact b6.out,by (with_reducible repeat (first | apply Kd.R_alloc | apply Kd.R_drewN | apply Kd.R_drew));exact b5.out,bl HB⟩
   rw [if_pos c10] at H
   have d7:=decide_eq_true c10
   clear c10
   replace H:=Option.bind_eq_some_iff.mp H
   obtain ⟨b7,d8,H⟩:=H
   replace H:(if b4.length < 17592186044416 then (shares_Fair.l0 k1 b1 (b4 ++ [b7]) (l1.length:Int) (wrap64 (b2 + 1)) l0 l1) else (none)) = some (r1,r2,r3):=H
   have m4:=A_ d8
   clear d8
   replace H:=gd H
   obtain ⟨m0,H⟩:=H
   have d9:=A_ m0
   clear m0
   obtain ⟨i2,d2⟩:∃ y_:List Int,y_ = (b4 ++ [b7]):=⟨_,rfl⟩
   rw [← d2] at H
   have e0:=A_ d2
   clear d2
   have H':=A_ H
   clear H
   have h0:wr.cell? ⟨b3,0,none⟩ = some (.slice A0 l0.length c0):=cz b0 0
   have h1:wr.cell? ⟨b3,1,none⟩ = some (.slice A1 l1.length c1):=cz b0 1
   have h2:=blk_frozen b0.out 0
   have h3:=blk_frozen b0.out 1
   obtain ⟨i3,i4,i5⟩:=Kd.R_slice b6.out
   subst i5
   go_wp2_with (first | ((with_reducible refine gate_callee (f:=72) rfl ?_);refine gL (some 31) Try.func72 #[.agg #[.slice A0 l0.length c0,.slice A1 l1.length c1],.slice i3 b1.length i4,.int .i64 b2] ?_;(with_reducible refine (shares_net_held.calls k1 _ _ l0 _ _ l1 _ _ b1 b2 b7 _ ?side1 ?side2 ?side3 ?side4 ?side5 ?side6 m4.out).mono ?_);(case side1=>exact cB e2 HB);(case side2=>exact e3.out);(case side3=>exact cB e4 HB);(case side4=>exact e5.out);(case side5=>repeat (first | exact (Kd.R_reads' b6.out).2.2 | (with_reducible refine Kd.C_alloc ?_ _) | (with_reducible refine Kd.C_drewN ?_ _) | (with_reducible refine Kd.C_drew ?_)));(case side6=>exact (Kd.R_reads' b6.out).2.1);rintro e m7 ⟨rfl,hb⟩;refine ⟨_,rfl,?_⟩;replace b6:=rB b6 hb;replace b5:=rB b5 hb;replace b0:=kB b0 hb;replace HB:=bB HB hb;(try clear hb)) | ((with_reducible refine gate_builtin (b:=.append) (xs:=#[.tmp 27,.tmp 32]) rfl ?_);at_builtin;refine Kd.R_append (Kd.int .i64) (w0:=w) w.heap.size rfl (.tmp 27) (.tmp 32) 28 3 (.int .i64 0) 8 rfl Try.underlying28 info3 rfl (by decide) (by omega) u10 b4 b7 [.int .i64 b7] (fun _=>True) (fun _=>False) rfl rfl ?aP (fun _ hk=>hk.elim) ?aF ?aO ?aB ?aS ?aL ?_;(case aP=>exact rfl);(case aB=>exact HB.out);(case aF=>exact (fun _ _=>trivial));(case aO=>exact b5.out);(case aS=>exact (below_size HB.out));(case aL=>have:=d9.out;omega);intro m5 m8 ho hb hg hat;rw [← e0.out] at ho;have e1:=A_ ho;replace b6:=A_ (Kd.R_over' b6.out (Kd.R_typed b5.out) (by decide) hg);replace b0:=A_ (blk_grown (g:=b3) (o:=.cells #[.slice A0 l0.length c0,.slice A1 l1.length c1] 109 (0,0)) b0.out hg (Kd.R_ne b5.out b0.out (by decide)));replace HB:=A_ hb;clear b5;clear ho hb hg hat))
   go_roundg k1
   case measure=>have:=l9.out;omega
   case rel=>exact ⟨(i2),(wrap64 (b2 + 1)),rfl,H',⟨by have:=l9.out;omega⟩,⟨by (with_reducible repeat (first | apply Kd.R_alloc | apply Kd.R_drewN | apply Kd.R_drew));exact b6.out⟩,⟨by (with_reducible repeat (first | apply Kd.R_alloc | apply Kd.R_drewN | apply Kd.R_drew));exact e1.out⟩,⟨by (with_reducible repeat (first | refine blk_drewN ?_ _ | refine blk_drew ?_ | refine blk_alloc ?_ _));exact b0.out⟩,⟨bl HB⟩⟩
end Go.Proofs.Ytjohcjfmlhihbaa.G
