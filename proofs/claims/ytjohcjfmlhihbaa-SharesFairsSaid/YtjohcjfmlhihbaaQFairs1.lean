/- Several texts, joined. -/
import Derived.WalkKit
import Derived.ProofKit
import Derived.OpenShut
import Derived.ShutString
import Derived.ChangeOld
import Derived.ChangeSame
import Derived.Below
import Derived.SizedLaws
import Derived.KernelRfl
import Derived.Test.YtjohcjfmlhihbaaRows
import Derived.Test.YtjohcjfmlhihbaaQF2
namespace Go.Proofs.Ytjohcjfmlhihbaa.H
end Go.Proofs.Ytjohcjfmlhihbaa.H
namespace Go.Proofs.Ytjohcjfmlhihbaa.Row
end Go.Proofs.Ytjohcjfmlhihbaa.Row
set_option linter.unusedVariables false
set_option linter.unusedSimpArgs false
namespace Go.Proofs.Ytjohcjfmlhihbaa.Row
open Go Go.ChangeShapes Go.WideShapes Go.ChangeAt Go.RowKit Go.Proofs.Ytjohcjfmlhihbaa.G Go.Proofs.YtjohcjfmlhihbaaW.PrintWords
theorem add_add (a:Addr) (n:Nat):(a.add n).add 1 = a.add (n + 1):=by
 unfold Addr.add
 by_cases h:n = 0
 ·subst h;rfl
 ·rw [if_neg h,if_neg (by omega),if_neg (by omega)]
  simp only [Nat.add_assoc]
section
variable {H:Type} {enc:TypeId × Value → H} {w:World} {base:Nat} {spare:Nat → Bool} {held:Bool} {fuel:Nat} {cs:List Value} {x:DataW H × List MemPlace}
theorem open_list (h:DataW.trod enc Try.prog w base spare held fuel 28 cs = some x):∃ (A:Option Addr) (l:List Int) (c:Nat),cs = [.slice A l.length c] ∧ l.length ≤ c ∧ Kd.C (Kd.int .i64) w A l.length l:=by
 rcases open_ints Try.underlying28 Try.underlying3 (by kernel_rfl) h with ⟨rfl,_⟩ | ⟨a,len,cap,zs,rfl,_,hl,hm,hz,_,hcell,_⟩
 ·exact ⟨none,[],0,rfl,Nat.le_refl _,rfl,by decide,fun h=>by simp at h⟩
 ·have hzl:len ≤ zs.length:=by rw [hz];split <;> omega
  have hll:(zs.take len).length = len:=by rw [List.length_take];omega
  have hm':cap ≤ 9223372036854775807:=hm
  refine ⟨some a,zs.take len,cap,by rw [hll],by rw [hll];exact hl,rfl,by rw [hll];omega,fun _=>⟨a,rfl,fun j p hj=>?_⟩⟩
  rw [List.getElem?_take] at hj
  split at hj
  ·refine ⟨[.int .i64 p],rfl,rfl,fun i u hu=>?_⟩
   rcases i with _ | i
   ·simp only [List.getElem?_cons_zero,Option.some.injEq] at hu
    subst hu
    have hjl:=(List.getElem?_eq_some_iff.1 hj).1
    have:=hcell j hjl
    rw [List.getD_eq_getElem?_getD,hj,Option.getD_some] at this
    show w.cell? (a.add (j * 1 + 0)) = _
    rw [Nat.mul_one,Nat.add_zero]
    exact this
   ·simp at hu
  ·cases hj
theorem first_of {cs':List Value} {v:Value} {m:Nat} (h:(cs'.drop m).take 1 = [v]):cs'[m]? = some v:=by
 have e3:=congrArg (fun l:List Value=>l[0]?) h
 simp only [List.getElem?_take,List.getElem?_drop,List.getElem?_cons_zero] at e3
 simpa using e3
set_option maxRecDepth 100000 in
theorem open_list1 {r:Reach} {b0:Nat} {v:Value} {d:DataW H} {p:List MemPlace} (hv:Value.okWide Try.prog w r b0 28 v) (h:DataW.Trod enc Try.prog w base spare held 28 v d p):∃ (A:Option Addr) (l:List Int) (c:Nat),v = .slice A l.length c ∧ l.length ≤ c ∧ Kd.C (Kd.int .i64) w A l.length l:=by
 obtain ⟨A,len,cap,rfl⟩:=okWide_slice Try.underlying28 hv
 obtain ⟨m,hm⟩:=h
 obtain ⟨A',l,c,e,r⟩:=open_list hm
 have e2:[Value.slice A len cap] = [.slice A' l.length c]:=e
 injection e2 with e2 _
 exact ⟨A',l,c,e2,r⟩
end
end Go.Proofs.Ytjohcjfmlhihbaa.Row
namespace Go.Proofs.Ytjohcjfmlhihbaa.Row
open Go Go.ChangeShapes Go.WideShapes Go.ChangeAt Go.RowKit Go.Proofs.Ytjohcjfmlhihbaa.G Go.Proofs.YtjohcjfmlhihbaaW.PrintWords
section
variable {H:Type} {enc:TypeId × Value → H} {w:World} {base:Nat} {spare:Nat → Bool} {held:Bool} {fuel:Nat} {cs:List Value} {x:DataW H × List MemPlace}
theorem open_users (h:DataW.trod enc Try.prog w base spare held fuel 43 cs = some x):∃ (A:Option Addr) (l:List S45) (c:Nat),cs = [.slice A l.length c] ∧ l.length ≤ c ∧ Kd.C k45 w A l.length l:=by
 rcases DataW.trod_slice Try.underlying43 h with ⟨rfl,_⟩ | ⟨a,len,cap,elems,rest,n,_,rfl,_,hb,hl,hm,hlen,hel,_,_⟩
 ·exact ⟨none,[],0,rfl,Nat.le_refl _,rfl,by decide,fun h=>by simp at h⟩
 ·have hm':cap ≤ 9223372036854775807:=hm
  have c45:Try.prog.cellsOf 45 = 2:=by kernel_rfl
  have c3:Try.prog.cellsOf 3 = 1:=by kernel_rfl
  have c28:Try.prog.cellsOf 28 = 1:=by kernel_rfl
  have key:∀ i,i < len → ∃ z:S45 × Option Addr × Nat,w.cell? (a.add (i * 2)) = some (.int .i64 z.1.f0) ∧ w.cell? (a.add (i * 2 + 1)) = some (.slice z.2.1 z.1.f1.length z.2.2) ∧ z.1.f1.length ≤ z.2.2 ∧ Kd.C (Kd.int .i64) w z.2.1 z.1.f1.length z.1.f1:=by
   intro i hi
   have h0:=hel i hi
   rw [List.getElem?_eq_getElem (by omega),Option.bind_eq_some_iff,c45] at h0
   obtain ⟨cs',h1,h2⟩:=h0
   obtain ⟨_,hcl,hcc⟩:=World.cells?_some h1
   obtain ⟨y0,y1,m1,_,_,e0,e1⟩:=trod_struct2 Try.underlying45 h2
   simp only [c3,c28] at e0 e1
   obtain ⟨x0,q0,_,w0⟩:=DataW.trod_int Try.underlying3 e0
   obtain ⟨A1,l1,c1,q1,b1,r1⟩:=open_list e1
   have g0:cs'[0]? = some (.int .i64 x0):=first_of q0
   have g1:cs'[1]? = some (.slice A1 l1.length c1):=first_of q1
   have k0:=hcc 0 (by omega)
   have k1:=hcc 1 (by omega)
   refine ⟨(⟨x0,l1⟩,A1,c1),?_,?_,b1,r1⟩
   ·have e:(a.add (i * 2)).add 0 = a.add (i * 2):=rfl
    rw [e] at k0;exact k0.trans g0
   ·have e:(a.add (i * 2)).add 1 = a.add (i * 2 + 1):=add_add a (i * 2)
    rw [e] at k1;exact k1.trans g1
  obtain ⟨f,hf⟩:∃ f:Nat → S45 × Option Addr × Nat,∀ i,i < len → w.cell? (a.add (i * 2)) = some (.int .i64 (f i).1.f0) ∧ w.cell? (a.add (i * 2 + 1)) = some (.slice (f i).2.1 (f i).1.f1.length (f i).2.2) ∧ (f i).1.f1.length ≤ (f i).2.2 ∧ Kd.C (Kd.int .i64) w (f i).2.1 (f i).1.f1.length (f i).1.f1 :=
   ⟨fun i=>if h:i < len then Classical.choose (key i h) else (⟨0,[]⟩,none,0),fun i hi=>by simp only [dif_pos hi];exact Classical.choose_spec (key i hi)⟩
  have hll:((List.range len).map fun i=>(f i).1).length = len:=by simp
  refine ⟨some a,(List.range len).map fun i=>(f i).1,cap,by rw [hll],by rw [hll];exact hl,rfl,by rw [hll];omega,fun _=>⟨a,rfl,fun j p hj=>?_⟩⟩
  rw [List.getElem?_map,Option.map_eq_some_iff] at hj
  obtain ⟨i,hi,rfl⟩:=hj
  have hil:=(List.getElem?_eq_some_iff.1 hi).1
  rw [List.length_range] at hil
  rw [List.getElem?_range hil,Option.some.injEq] at hi
  subst hi
  obtain ⟨s0,s1,s2,s3⟩:=hf j hil
  refine ⟨[.int .i64 (f j).1.f0,.slice (f j).2.1 (f j).1.f1.length (f j).2.2],rfl,k45_mk w (f j).1 s2 s3,fun i u hu=>?_⟩
  show w.cell? (a.add (j * 2 + i)) = _
  rcases i with _ | _ | i
  ·simp only [List.getElem?_cons_zero,Option.some.injEq] at hu;subst hu;exact s0
  ·simp only [List.getElem?_cons_succ,List.getElem?_cons_zero,Option.some.injEq] at hu;subst hu;exact s1
  ·simp at hu
set_option maxRecDepth 100000 in
theorem open_users1 {r:Reach} {b0:Nat} {v:Value} {d:DataW H} {p:List MemPlace} (hv:Value.okWide Try.prog w r b0 43 v) (h:DataW.Trod enc Try.prog w base spare held 43 v d p):∃ (A:Option Addr) (l:List S45) (c:Nat),v = .slice A l.length c ∧ l.length ≤ c ∧ Kd.C k45 w A l.length l:=by
 obtain ⟨A,len,cap,rfl⟩:=okWide_slice Try.underlying43 hv
 obtain ⟨m,hm⟩:=h
 obtain ⟨A',l,c,e,r⟩:=open_users hm
 have e2:[Value.slice A len cap] = [.slice A' l.length c]:=e
 injection e2 with e2 _
 exact ⟨A',l,c,e2,r⟩
end
end Go.Proofs.Ytjohcjfmlhihbaa.Row
namespace Go.Proofs.Ytjohcjfmlhihbaa.P
open Go Go.RowKit Go.Proofs.Ytjohcjfmlhihbaa.G
open Go.Proofs.YtjohcjfmlhihbaaW.PrintWords Go.Proofs.YtjohcjfmlhihbaaW.PrintMore
theorem rd_get {l:List Int} {i:Nat} (h:i < l.length):rd l (i:Int) = l[i]:=by unfold rd;simp [h]
theorem wrap_succ {i:Nat} (h:i < 9223372036854775807):wrap64 ((i:Int) + 1) = ((i + 1:Nat):Int):=by unfold wrap64;omega
structure IsCl (l:List Int):Prop where
 one:1 ≤ l.length
 ten:l.length ≤ 10
 mem:∀ x ∈ l,0 ≤ x ∧ x ≤ 1000
instance (l:List Int):Decidable (IsCl l):=decidable_of_iff (1 ≤ l.length ∧ l.length ≤ 10 ∧ ∀ x ∈ l,0 ≤ x ∧ x ≤ 1000) ⟨fun h=>⟨h.1,h.2.1,h.2.2⟩,fun h=>⟨h.1,h.2,h.3⟩⟩
end Go.Proofs.Ytjohcjfmlhihbaa.P
namespace Go.Proofs.Ytjohcjfmlhihbaa.G
open Go.RowKit Go.Proofs.YtjohcjfmlhihbaaW.PrintWords Go.Proofs.YtjohcjfmlhihbaaW.PrintLast Go.Proofs.YtjohcjfmlhihbaaW.PrintMore
set_option maxHeartbeats 8000000
set_option maxRecDepth 100000
attribute [local go_sem] cond_true cond_false fld23_0 fld23_1 fld45_0 fld45_1 fld109_0 fld109_1 fld94_0 fld94_1 max2_int min2_int max_two min_two max_three min_three max_four min_four   -- for this text's walks alone
def numnahref07_Whole.f (a0:Int):Option (Int × Int):=some (a0,1)
theorem numnahref07_Whole.calls (a0:Int) (r1:Int) (r2:Int) (w:World) (h:numnahref07_Whole.f a0 = some (r1,r2)) :
  Calls Try.prog 23 #[.int .i64 a0] w fun e w'=>e = .returned (.agg #[.int .i64 r1,.int .i64 r2]) ∧ Below w.heap.size w w':=by
 have d0:=Try.underlying23
 have HB:=Aside0.mk (Below.refl w.heap.size w)
 have H:(some (a0,1)) = some (r1,r2):=h
 clear h
 simp only [Option.some.injEq,Prod.mk.injEq] at H
 obtain ⟨rfl,rfl⟩:=H
 go_enter Try.func23,Try.ntmps23
 go_wp2_with (first | ((with_reducible refine gate_dst (N:=2) rfl ?_);refine box_event ?hg (N:=2) ?hd (cs:=#[.int .i64 0,.int .i64 0]) (t:=23) ?hr ?_;(case hd=>rfl);(case hg=>rfl);(case hr=>first | (go_simp;done) | (go_simp;rfl));intro b0 hg w2 hbox hb;have b7:=Aside0.mk (below_step (by repeat (first | (with_reducible first | exact HB.out | apply below_alloc | apply pw_below_drewN | apply below_drew1) | exact HB.out)) hb);have b8:=Aside0.mk (hbox);have b9:=Aside0.mk ((by rw [hg];exact (below_size (by repeat (first | (with_reducible first | exact HB.out | apply below_alloc | apply pw_below_drewN | apply below_drew1) | exact HB.out))):w.heap.size ≤ b0));have c0:=Aside0.mk ((by rw [hg];exact (below_size (by repeat (first | (with_reducible first | exact HB.out | apply below_alloc | apply pw_below_drewN | apply below_drew1) | exact HB.out))):w.heap.size ≤ b0));clear HB;have HB:=b7;have b1:=b8;have c1:=b9;have b2:=c0;clear b7 b8 b9 c0;clear hb hbox hg;have b3:w2.cell? ⟨b0,0,none⟩ = some (.int .i64 0):=(blk_cell b1.out 0).trans rfl;have b4:w2.cell? ⟨b0,1,none⟩ = some (.int .i64 0):=(blk_cell b1.out 1).trans rfl;have b5:=blk_frozen b1.out 0;have b6:=blk_frozen b1.out 1))
 refine bodyPost_ret (results_cell_row rfl _ _ b0 23 #[.int .i64 a0,.int .i64 1] (0,0) _ rfl (by (with_reducible repeat (first | refine blk_drewN ?_ _ | refine blk_drew ?_ | refine blk_alloc ?_ _));refine blk_put (cs:=#[.int .i64 a0,.int .i64 0]) ?_ 1 _ rfl;(with_reducible repeat (first | refine blk_drewN ?_ _ | refine blk_drew ?_ | refine blk_alloc ?_ _));refine blk_put (cs:=#[.int .i64 0,.int .i64 0]) ?_ 0 _ rfl;(with_reducible repeat (first | refine blk_drewN ?_ _ | refine blk_drew ?_ | refine blk_alloc ?_ _));exact b1.out) Try.underlying23 rfl (by kernel_rfl)) rfl ?_
 exact ⟨by first | rfl | (simp [errW_none,errW_some] <;> rfl) | (simp [*,errW_none,errW_some] <;> rfl),by repeat (first | (with_reducible first | exact HB.out | apply below_alloc | apply pw_below_drewN | apply below_drew1 | refine below_set ?_ b2.out) | exact HB.out)⟩
end Go.Proofs.Ytjohcjfmlhihbaa.G
namespace Go.Proofs.Ytjohcjfmlhihbaa.P
open Go Go.RowKit Go.Proofs.Ytjohcjfmlhihbaa.G
open Go.Proofs.YtjohcjfmlhihbaaW.PrintWords Go.Proofs.YtjohcjfmlhihbaaW.PrintMore
structure Sm (A D:Nat) (q:Rat):Prop where
 num:q.num.natAbs ≤ A
 den:q.den ≤ D
theorem Sm.mono {A D B E:Nat} {q:Rat} (h:Sm A D q) (h1:A ≤ B) (h2:D ≤ E):Sm B E q:=⟨Nat.le_trans h.num h1,Nat.le_trans h.den h2⟩
theorem Sm.int {A:Nat} {n:Int} (h:n.natAbs ≤ A):Sm A 1 (n:Rat):=⟨by rw [whole_num];exact h,by rw [whole_den];exact Nat.le_refl _⟩
theorem Sm.zero:Sm 0 1 (0:Rat):=⟨Nat.le_refl _,Nat.le_refl _⟩
theorem Sm.add {A D B E:Nat} {p q:Rat} (h:Sm A D p) (k:Sm B E q):Sm (A * E + B * D) (D * E) (p + q) :=
 ⟨Nat.le_trans (add_num_le p q) (Nat.add_le_add (Nat.mul_le_mul h.num k.den) (Nat.mul_le_mul k.num h.den)),
  Nat.le_trans (Nat.le_of_dvd (Nat.mul_pos (den_pos p) (den_pos q)) (add_den_dvd p q)) (Nat.mul_le_mul h.den k.den)⟩
theorem Sm.half {A D:Nat} {q:Rat} (h:Sm A D q):Sm A (D * 2) (q / 2):=by
 have e:q / 2 = mkRat q.num (q.den * 2):=(mk_over q (n:=2) (by omega)).symm
 rw [e]
 exact ⟨Nat.le_trans (num_le _ _) h.num,Nat.le_trans (den_le (by have:=den_pos q;omega)) (Nat.mul_le_mul_right _ h.den)⟩
theorem Sm.fits {A D B E:Nat} {p q:Rat} (h:Sm A D p) (k:Sm B E q) (h1:A * E + B * D < 9223372036854775808) (h2:D * E < 9223372036854775808):Fits p q :=
 ⟨Nat.lt_of_le_of_lt (Nat.add_le_add (Nat.mul_le_mul h.num k.den) (Nat.mul_le_mul k.num h.den)) h1,Nat.lt_of_le_of_lt (Nat.mul_le_mul h.den k.den) h2⟩
end Go.Proofs.Ytjohcjfmlhihbaa.P
namespace Go.Proofs.Ytjohcjfmlhihbaa.P
open Go Go.RowKit Go.Proofs.Ytjohcjfmlhihbaa.G
open Go.Proofs.YtjohcjfmlhihbaaW.PrintWords Go.Proofs.YtjohcjfmlhihbaaW.PrintMore
def encQ (q:Rat):S23:=⟨q.num,(q.den:Int)⟩
def encL (l:List Rat):List S23:=l.map encQ
theorem encL_length (l:List Rat):(encL l).length = l.length:=List.length_map _
section
variable {q:List Rat} (hf:∀ x ∈ q,∀ y ∈ q,Fits x y) (hn:q.length < 20)
structure On (q:List Rat) (σ:List Nat) (m j:Nat):Prop where
 perm:σ.Perm (List.range q.length)
 ord:∀ a b,a < b → b < m → b ≠ j → q.getD (σ.getD a 0) 0 ≤ q.getD (σ.getD b 0) 0
theorem On.len {q:List Rat} {σ:List Nat} {m j:Nat} (h:On q σ m j):σ.length = q.length:=by rw [h.perm.length_eq,List.length_range]
end
end Go.Proofs.Ytjohcjfmlhihbaa.P
namespace Go.Proofs.Ytjohcjfmlhihbaa.P
open Go Go.RowKit Go.Proofs.Ytjohcjfmlhihbaa.G
open Go.Proofs.YtjohcjfmlhihbaaW.PrintWords Go.Proofs.YtjohcjfmlhihbaaW.PrintMore
def fac:Nat → Nat
 | 0=>1
 | n + 1=>(n + 1) * fac n
theorem fac_pos:∀ n,1 ≤ fac n
 | 0=>Nat.le_refl _
 | n + 1=>by rw [fac];exact Nat.mul_pos (by omega) (fac_pos n)
structure OkE (E:Rat) (D left:Nat):Prop where
 lo:0 ≤ E
 hi:E ≤ ((10000:Nat):Rat)
 den:E.den ∣ D
 two:2 ∣ D
 pos:0 < D
 small:D * fac left ≤ 7257600
structure OkC (c:Rat):Prop where
 lo:0 ≤ c
 hi:c ≤ ((1000:Nat):Rat)
 den:c.den ∣ 2
theorem num_abs {q:Rat} {B D:Nat} (h0:0 ≤ q) (h1:q ≤ (B:Rat)) (hd:q.den ≤ D):q.num.natAbs ≤ B * D:=by
 have:=num_of h0 h1 hd
 omega
theorem OkC.sm {c:Rat} (h:OkC c):Sm 2000 2 c:=⟨num_abs h.lo h.hi (den_le_of_dvd h.den (by omega)),den_le_of_dvd h.den (by omega)⟩
theorem OkE.le {E:Rat} {D left:Nat} (h:OkE E D left):D ≤ 7257600:=by
 have h1:=h.small
 have h2:D * 1 ≤ D * fac left:=Nat.mul_le_mul_left _ (fac_pos left)
 omega
theorem OkE.sm {E:Rat} {D left:Nat} (h:OkE E D left):Sm 72576000000 7257600 E:=by
 have hd:=Nat.le_trans (den_le_of_dvd h.den h.pos) h.le
 exact ⟨num_abs h.lo h.hi hd,hd⟩
theorem over_den (E:Rat) {n:Nat} (hn:0 < n):(E / (n:Rat)).den ∣ E.den * n:=by
 rw [← mk_over E hn]
 exact den_dvd _ (Nat.ne_of_gt (Nat.mul_pos (den_pos E) hn))
theorem nat_pos_rat {n:Nat} (h:0 < n):(0:Rat) < (n:Rat):=Rat.natCast_pos.2 h
theorem over_le {E:Rat} {n:Nat} (hn:0 < n) (h:0 ≤ E):0 ≤ E / (n:Rat) ∧ E / (n:Rat) ≤ E:=by
 have hp:=nat_pos_rat hn
 have h1:(1:Rat) ≤ (n:Rat):=by
  have:((1:Nat):Rat) ≤ (n:Rat):=Rat.natCast_le_natCast.2 hn
  simpa using this
 have hm:E / (n:Rat) * (n:Rat) = E:=Rat.div_mul_cancel (by grind)
 have h0:0 ≤ E / (n:Rat):=by
  refine Rat.le_of_mul_le_mul_right (c:=(n:Rat)) ?_ hp
  rw [hm];grind
 refine ⟨h0,?_⟩
 have:=Rat.mul_le_mul_of_nonneg_left h1 h0
 rw [hm] at this
 grind
section
variable {E c:Rat} {D n:Nat} (h:OkE E D (n + 1)) (hc:OkC c)
include h
theorem eqD:D * (n + 1) * fac n ≤ 7257600:=by
 have:=h.small
 rw [fac] at this
 rw [Nat.mul_assoc];exact this
theorem over_dvd:(E / ((n + 1:Nat):Rat)).den ∣ D * (n + 1):=Nat.dvd_trans (over_den E (by omega)) (Nat.mul_dvd_mul_right h.den _)
end
section
variable {E c:Rat} {D n:Nat} (h:OkE E D (n + 1)) (hc:OkC c)
include h hc
theorem min_dvd:(min c (E / ((n + 1:Nat):Rat))).den ∣ D * (n + 1):=by
 rw [Rat.min_def]
 split
 ·exact Nat.dvd_trans (Nat.dvd_trans hc.den h.two) (Nat.dvd_mul_right _ _)
 ·exact over_dvd h
theorem min_lohi:0 ≤ min c (E / ((n + 1:Nat):Rat)) ∧ min c (E / ((n + 1:Nat):Rat)) ≤ E:=by
 have hl:=over_le (n:=n + 1) (by omega) h.lo
 have:=hc.lo
 rw [Rat.min_def]
 split <;> grind
theorem OkE.next:OkE (E - min c (E / ((n + 1:Nat):Rat))) (D * (n + 1)) n:=by
 have hl:=min_lohi h hc
 exact ⟨by grind,by have:=h.hi;grind,sub_den_dvd' (Nat.dvd_trans h.den (Nat.dvd_mul_right _ _)) (min_dvd h hc) (Nat.mul_pos h.pos (by omega)),Nat.dvd_trans h.two (Nat.dvd_mul_right _ _),Nat.mul_pos h.pos (by omega),eqD h⟩
end
end Go.Proofs.Ytjohcjfmlhihbaa.P
namespace Go.Proofs.Ytjohcjfmlhihbaa.P
open Go Go.RowKit Go.Proofs.Ytjohcjfmlhihbaa.G
open Go.Proofs.YtjohcjfmlhihbaaW.PrintWords Go.Proofs.YtjohcjfmlhihbaaW.PrintMore
theorem tot_den {D:Nat} (h0:0 < D):∀ {l:List Rat},(∀ c ∈ l,c.den ∣ D) → (tot l).den ∣ D
 | [],_=>Nat.one_dvd _
 | a :: l,h=>add_den_dvd' (h a (by simp)) (tot_den h0 (fun c hc=>h c (List.mem_cons_of_mem _ hc))) h0
theorem tot_min (L:Rat):∀ l:List Rat,tot (l.map fun c=>min c L) = tot (l.map fun c=>if c ≤ L then c else 0) + ((l.countP fun c=>decide (L < c):Nat):Rat) * L
 | []=>by simp [tot_nil];grind
 | a :: l=>by
  rw [List.map_cons,List.map_cons,tot_cons,tot_cons,tot_min L l,List.countP_cons,Rat.min_def]
  by_cases h:a ≤ L
  ·have h':¬ L < a:=by grind
   rw [if_pos h,if_pos h,if_neg (by simpa using h')]
   push_cast;grind
  ·have h':L < a:=by grind
   rw [if_neg h,if_neg h,if_pos (by simpa using h')]
   push_cast;grind
theorem IsEq.den {l:List Rat} {E:Rat} {x:List Rat} (h:IsEq l E x) {D:Nat} (h0:0 < D) (hl:∀ c ∈ l,c.den ∣ D) (hE:E.den ∣ D):∀ y ∈ x,∃ m,1 ≤ m ∧ m ≤ l.length ∧ y.den ∣ D * m:=by
 obtain ⟨L,rfl,ht⟩:=h
 intro y hy
 obtain ⟨c,hc,rfl⟩:=List.mem_map.1 hy
 have hlen:1 ≤ l.length:=List.length_pos_iff.2 (List.ne_nil_of_mem hc)
 rw [Rat.min_def]
 by_cases h1:c ≤ L
 ·rw [if_pos h1]
  exact ⟨1,Nat.le_refl _,hlen,by rw [Nat.mul_one];exact hl c hc⟩
 ·rw [if_neg h1]
  obtain ⟨m,hm⟩:∃ m,l.countP (fun c=>decide (L < c)) = m:=⟨_,rfl⟩
  have hm1:1 ≤ m:=by
   rw [← hm]
   exact List.countP_pos_iff.2 ⟨c,hc,by simp;grind⟩
  have hm2:m ≤ l.length:=by rw [← hm];exact List.countP_le_length
  rw [tot_min,hm] at ht
  have hS:(tot (l.map fun c=>if c ≤ L then c else 0)).den ∣ D:=tot_den h0 (fun z hz=>by
   obtain ⟨d,hd,rfl⟩:=List.mem_map.1 hz
   split
   ·exact hl d hd
   ·exact Nat.one_dvd _)
  have hp:=nat_pos_rat (n:=m) (by omega)
  have hL:L = (E - tot (l.map fun c=>if c ≤ L then c else 0)) / (m:Rat):=by
   rw [← ht]
   have:(tot (l.map fun c=>if c ≤ L then c else 0) + (m:Rat) * L - tot (l.map fun c=>if c ≤ L then c else 0)) = L * (m:Rat):=by grind
   rw [this]
   exact (Rat.mul_div_cancel (by grind)).symm
  refine ⟨m,hm1,hm2,?_⟩
  rw [hL]
  exact Nat.dvd_trans (over_den _ (by omega)) (Nat.mul_dvd_mul_right (sub_den_dvd' hE hS h0) _)
end Go.Proofs.Ytjohcjfmlhihbaa.P
namespace Go.Proofs.Ytjohcjfmlhihbaa.P
open Go Go.RowKit Go.Proofs.Ytjohcjfmlhihbaa.G
open Go.Proofs.YtjohcjfmlhihbaaW.PrintWords Go.Proofs.YtjohcjfmlhihbaaW.PrintMore
theorem S_single {m j:Nat} (hj:j < m) (r:Rat):S m (fun u=>if u = j then r else 0) = r:=by
 induction m with
 | zero=>omega
 | succ m ih =>
  unfold S
  rw [List.range_succ,List.map_append,tot_append]
  by_cases h:j = m
  ·subst h
   have:tot ((List.range j).map fun u=>if u = j then r else 0) = 0:=S_zero (m:=j) (fun u hu=>by rw [if_neg (by omega)])
   rw [this]
   simp only [List.map_cons,List.map_nil,tot_cons,tot_nil,if_true]
   grind
  ·have:=ih (by omega)
   unfold S at this
   rw [this]
   simp only [List.map_cons,List.map_nil,tot_cons,tot_nil]
   rw [if_neg (fun e=>h e.symm)]
   grind
theorem S_update {m j:Nat} (hj:j < m) {f g:Nat → Rat} (h:∀ u,u < m → u ≠ j → g u = f u):S m g = S m f + (g j - f j):=by
 have e:S m (fun u=>g u - f u) = S m (fun u=>if u = j then g j - f j else 0):=S_congr fun u hu=>by
  by_cases hu2:u = j
  ·subst hu2;rw [if_pos rfl]
  ·rw [if_neg hu2,h u hu hu2];grind
 rw [S_sub,S_single hj] at e
 grind
structure Rq (l:List Int) (E e:Int) (done:List Bool) (left:Nat) (out:List S23):Prop where
 dl:done.length = l.length
 ol:out.length = l.length
 cnt:(left:Rat) = S l.length (fun i=>if done.getD i false then 0 else 1)
 est:(e:Rat) = (E:Rat) - S l.length (fun i=>if done.getD i false then ((l.getD i 0:Int):Rat) else 0)
 e0:0 ≤ e
 eb:e ≤ 20000
 lb:left ≤ 10
 ok:∀ i,i < l.length → done.getD i false = true → l.getD i 0 * (left:Int) ≤ e ∧ out.getD i z23 = encQ ((l.getD i 0:Int):Rat)
section
variable {l:List Int} (h:IsCl l) {E:Int}
include h
theorem Rq.next {e:Int} {done:List Bool} {left:Nat} {out:List S23} (s:Rq l E e done (left + 1) out) {j:Nat} (hj:j < l.length) (hd:done.getD j false = false) (hc:l.getD j 0 * ((left + 1:Nat):Int) ≤ e) :
  Rq l E (e - l.getD j 0) (done.set j true) left (out.set j (encQ ((l.getD j 0:Int):Rat))):=by
 have hg:l.getD j 0 = l[j]:=by simp [hj]
 have hm:=h.mem _ (List.getElem_mem hj)
 rw [← hg] at hm
 have gd:∀ u,(done.set j true).getD u false = if u = j then true else done.getD u false:=by
  intro u
  simp only [List.getD_eq_getElem?_getD,List.getElem?_set]
  by_cases e1:u = j
  ·subst e1;simp [s.dl,hj]
  ·rw [if_neg (fun e=>e1 e.symm),if_neg e1]
 have go:∀ u,(out.set j (encQ ((l.getD j 0:Int):Rat))).getD u z23 = if u = j then encQ ((l.getD j 0:Int):Rat) else out.getD u z23:=by
  intro u
  simp only [List.getD_eq_getElem?_getD,List.getElem?_set]
  by_cases e1:u = j
  ·subst e1;simp [s.ol,hj]
  ·rw [if_neg (fun e=>e1 e.symm),if_neg e1]
 have hc2:l.getD j 0 * (left:Int) + l.getD j 0 ≤ e:=by
  have:l.getD j 0 * ((left + 1:Nat):Int) = l.getD j 0 * (left:Int) + l.getD j 0:=by push_cast;rw [Int.mul_add,Int.mul_one]
  omega
 have hpos:0 ≤ l.getD j 0 * (left:Int):=Int.mul_nonneg hm.1 (by omega)
 refine ⟨by rw [List.length_set];exact s.dl,by rw [List.length_set];exact s.ol,?_,?_,by omega,by have:=s.eb;omega,by have:=s.lb;omega,fun i hi hid=>?_⟩
 ·have hu:=S_update hj (f:=fun i=>if done.getD i false then (0:Rat) else 1) (g:=fun i=>if (done.set j true).getD i false then 0 else 1) (fun u _ hu=>by simp only [gd,if_neg hu])
  rw [hu,← s.cnt]
  simp only [gd,if_true,hd,Bool.false_eq_true,if_false]
  push_cast;grind
 ·have hu:=S_update hj (f:=fun i=>if done.getD i false then ((l.getD i 0:Int):Rat) else 0) (g:=fun i=>if (done.set j true).getD i false then ((l.getD i 0:Int):Rat) else 0) (fun u _ hu=>by simp only [gd,if_neg hu])
  rw [hu]
  simp only [gd,if_true,hd,Bool.false_eq_true,if_false]
  have:=s.est
  push_cast
  grind
 ·rw [gd] at hid
  rw [go]
  by_cases e1:i = j
  ·subst e1
   rw [if_pos rfl]
   exact ⟨by omega,rfl⟩
  ·rw [if_neg e1] at hid ⊢
   obtain ⟨k1,k2⟩:=s.ok i hi hid
   refine ⟨?_,k2⟩
   have hi2:l.getD i 0 * ((left + 1:Nat):Int) = l.getD i 0 * (left:Int) + l.getD i 0:=by push_cast;rw [Int.mul_add,Int.mul_one]
   rw [hi2] at k1
   have a1:(l.getD i 0 * (left:Int) + l.getD i 0) * (left:Int) ≤ e * (left:Int):=Int.mul_le_mul_of_nonneg_right k1 (by omega)
   by_cases hl0:left = 0
   ·subst hl0
    have:l.getD i 0 * ((0:Nat):Int) = 0:=by simp
    omega
   ·-- (left + 1) * (c_i * left) ≤ e * left ≤ (left + 1) * (e - c_j)
    have a2:e * (left:Int) ≤ ((left:Int) + 1) * (e - l.getD j 0):=by
     have:((left:Int) + 1) * (e - l.getD j 0) = e * (left:Int) + e - (l.getD j 0 * (left:Int) + l.getD j 0):=by grind
     omega
    have a3:(l.getD i 0 * (left:Int) + l.getD i 0) * (left:Int) = ((left:Int) + 1) * (l.getD i 0 * (left:Int)):=by grind
    rw [a3] at a1
    exact Int.le_of_mul_le_mul_left (Int.le_trans a1 a2) (by omega)
end
end Go.Proofs.Ytjohcjfmlhihbaa.P
set_option linter.unusedSectionVars false
namespace Go.Proofs.Ytjohcjfmlhihbaa.P
open Go Go.RowKit Go.Proofs.Ytjohcjfmlhihbaa.G
open Go.Proofs.YtjohcjfmlhihbaaW.PrintWords Go.Proofs.YtjohcjfmlhihbaaW.PrintMore
theorem awake_now:numnahlaw07_awake.f 60 = some true:=by kernel_rfl
theorem ev_awake:Ev (fun k=>numnahlaw07_awake.f k) true:=Ev.of (fun k=>numnahlaw07_awake.mono k) awake_now
end Go.Proofs.Ytjohcjfmlhihbaa.P
namespace Go.Proofs.Ytjohcjfmlhihbaa.G
open Go.RowKit Go.Proofs.YtjohcjfmlhihbaaW.PrintWords Go.Proofs.YtjohcjfmlhihbaaW.PrintLast Go.Proofs.YtjohcjfmlhihbaaW.PrintMore
attribute [local go_sem] fld23_0 fld23_1 fld45_0 fld45_1 fld109_0 fld109_1 fld94_0 fld94_1 max2_int min2_int max_two min_two max_three min_three max_four min_four   -- for this text's walks alone
set_option linter.unusedVariables false
set_option linter.unusedSimpArgs false
theorem eqA23 (d:Nat) (w:World) (x0 y0:Int) (x1 y1:Int) :
  (Op.equalIn (d + 2) 23 (.agg #[.int .i64 x0,.int .i64 x1]) (.agg #[.int .i64 y0,.int .i64 y1])).run Try.prog w = .ok (x0 == y0 && (x1 == y1)) w:=by
 refine eqA_of Try.underlying23 (by kernel_rfl) ?_
 refine eqf_cons (by rfl) (by go_simp;rfl) (by go_simp;rfl) (by go_simp) ?_
 exact eqf_last (by rfl) (by go_simp;rfl) (by go_simp;rfl) (by go_simp)
end Go.Proofs.Ytjohcjfmlhihbaa.G
namespace Go.Proofs.Ytjohcjfmlhihbaa.G
open Go.RowKit Go.Proofs.YtjohcjfmlhihbaaW.PrintWords Go.Proofs.YtjohcjfmlhihbaaW.PrintLast Go.Proofs.YtjohcjfmlhihbaaW.PrintMore
set_option maxHeartbeats 8000000
set_option maxRecDepth 100000
attribute [local go_sem] cond_true cond_false fld23_0 fld23_1 fld45_0 fld45_1 fld109_0 fld109_1 fld94_0 fld94_1 max2_int min2_int max_two min_two max_three min_three max_four min_four   -- for this text's walks alone
attribute [local go_sem high] eqA23
def numnahref07_Same.l0:Nat → List (S23) → List (S23) → Int → Option (Bool)
 | 0,_,_,_=>none
 | k + 1,x0,x1,x5=>if x5 < (x0.length:Int) then (if 0 ≤ x5 then (if x5 < (x1.length:Int) then (if (!(((rd_T23 x0 x5).f0) == ((rd_T23 x1 x5).f0)) || (!(((rd_T23 x0 x5).f1) == ((rd_T23 x1 x5).f1)))) = true then (some false) else (numnahref07_Same.l0 k x0 x1 (wrap64 (x5 + 1)))) else (none)) else (none)) else (some true)
def numnahref07_Same.f (k:Nat) (l0:List (S23)) (l1:List (S23)):Option (Bool):=if (l0.length:Int) = (l1.length:Int) then (numnahref07_Same.l0 k l0 l1 0) else (some false)
theorem numnahref07_Same.mono_l:∀ k,(∀ y0 y1 y2,LeO (numnahref07_Same.l0 k y0 y1 y2) (numnahref07_Same.l0 (k + 1) y0 y1 y2))
 | 0=>fun _ _ _ r h=>by simp [numnahref07_Same.l0] at h
 | k + 1=>by
  have d1:=numnahref07_Same.mono_l k
  intro y0 y1 y2
  unfold numnahref07_Same.l0
  repeat' first
  | (with_reducible exact d1 _ _ _)
  | (with_reducible exact LeO.refl _)
  | (with_reducible exact LeO.none _)
  | (with_reducible refine LeO.ite ?_ ?_)
  | (with_reducible refine LeO.bind ?_ (fun _=>?_))
  | exact d1 _ _ _
  | exact LeO.none _
  | refine LeO.ite ?_ ?_
  | refine LeO.bind ?_ (fun _=>?_)
theorem numnahref07_Same.mono:∀ a0 a1 k,LeO (numnahref07_Same.f k a0 a1) (numnahref07_Same.f (k + 1) a0 a1):=by
 intro a0 a1 k
 have d1:=numnahref07_Same.mono_l k
 unfold numnahref07_Same.f
 repeat' first
   | (with_reducible exact d1 _ _ _)
   | (with_reducible exact LeO.refl _)
   | (with_reducible exact LeO.none _)
   | (with_reducible refine LeO.ite ?_ ?_)
   | (with_reducible refine LeO.bind ?_ (fun _=>?_))
   | exact d1 _ _ _
   | exact LeO.none _
   | refine LeO.ite ?_ ?_
   | refine LeO.bind ?_ (fun _=>?_)
theorem numnahref07_Same.calls (k:Nat) (A0:Option Addr) (c0:Nat) (l0:List (S23)) (A1:Option Addr) (c1:Nat) (l1:List (S23)) (r:Bool) (w:World) (d9:Kd.C k23 w A0 l0.length l0) (e0:l0.length ≤ c0) (e1:Kd.C k23 w A1 l1.length l1) (e2:l1.length ≤ c1) (h:numnahref07_Same.f k l0 l1 = some r) :
  Calls Try.prog 33 #[.slice A0 l0.length c0,.slice A1 l1.length c1] w fun e w'=>e = .returned (.bool r) ∧ Drawn0 w w':=by
 have e6:=Try.underlying23
 have e3:=Aside0.mk d9
 have e9:=Aside0.mk e0
 clear d9 e0
 have e4:=Aside0.mk e1
 have h0:=Aside0.mk e2
 clear e1 e2
 have H:(if (l0.length:Int) = (l1.length:Int) then (numnahref07_Same.l0 k l0 l1 0) else (some false)) = some r:=h
 clear h
 by_cases c3:(l0.length:Int) = (l1.length:Int)
 case neg =>
  rw [if_neg c3] at H
  have d2:((l0.length:Int) == (l1.length:Int)) = false:=beq_eq_false_iff_ne.mpr c3
  have d3:((l0.length:Int) != (l1.length:Int)) = true:=bne_iff_ne.mpr c3
  have d4:(l0.length == l1.length) = false:=by first | simpa using c3 | (simp at c3 ⊢;omega)
  obtain rfl:=Option.some.inj H
  go_enter Try.func33,Try.ntmps33
  go_wp2
  repeat (go_quiet (fail);try go_wp2)
  go_ret
  exact ⟨by first | rfl | (simp;done) | (simp [*];done),by repeat (first | exact Drawn0.refl _ | apply Drawn0.step)⟩
 rw [if_pos c3] at H
 have d2:((l0.length:Int) == (l1.length:Int)) = true:=beq_iff_eq.mpr c3
 have d3:((l0.length:Int) != (l1.length:Int)) = false:=bne_eq_false_iff_eq.mpr c3
 have d4:(l0.length == l1.length) = true:=by first | simpa using c3 | (simp at c3 ⊢;omega)
 clear c3
 have H':=Aside0.mk H
 clear H
 go_enter Try.func33,Try.ntmps33
 go_wp2
 repeat (go_quiet (fail);try go_wp2)
 go_loopg [5] k (fun kq v5 w'=>∃ (b0:Int),v5 = .int .i64 b0 ∧ Aside0 (numnahref07_Same.l0 kq l0 l1 b0 = some r) ∧ Aside0 (kq ≤ k) ∧ Drawn0 w w')
 case atStart=>exact ⟨(0),(by first | rfl | (simp;done) | (simp [*];done)),H',⟨Nat.le_refl _⟩,by repeat (first | exact Drawn0.refl _ | apply Drawn0.step)⟩
 case round =>
  clear H'
  try clear c1
  try clear p2
  try clear c3
  try clear d2
  try clear d3
  try clear d4
  obtain ⟨b0,rfl,HA,e5,⟨m1,rfl⟩⟩:=hrel
  cases gk with
  | zero=>exact absurd HA.out (by simp [numnahref07_Same.l0])
  | succ k1 =>
   have H:=HA.out
   clear HA
   simp only [numnahref07_Same.l0] at H
   by_cases c4:b0 < (l0.length:Int)
   case neg =>
    rw [if_neg c4] at H
    have d7:decide (b0 < (l0.length:Int)) = false:=decide_eq_false c4
    clear c4
    obtain rfl:=Option.some.inj H
    go_wp2
    repeat (go_quiet (fail);try go_wp2)
    go_ret
    exact ⟨by first | rfl | (simp;done) | (simp [*];done),by repeat (first | exact Drawn0.refl _ | apply Drawn0.step)⟩
   rw [if_pos c4] at H
   have d7:decide (b0 < (l0.length:Int)) = true:=decide_eq_true c4
   clear c4
   by_cases c5:0 ≤ b0
   case neg =>
    rw [if_neg c5] at H
    exact absurd H (by simp)
   rw [if_pos c5] at H
   have e7:decide (0 ≤ b0) = true:=decide_eq_true c5
   clear c5
   by_cases c6:b0 < (l1.length:Int)
   case neg =>
    rw [if_neg c6] at H
    exact absurd H (by simp)
   rw [if_pos c6] at H
   have e8:decide (b0 < (l1.length:Int)) = true:=decide_eq_true c6
   clear c6
   by_cases c7:(!(((rd_T23 l0 b0).f0) == ((rd_T23 l1 b0).f0)) || (!(((rd_T23 l0 b0).f1) == ((rd_T23 l1 b0).f1)))) = true
   ·rw [if_pos c7] at H
    have d8:(!(((rd_T23 l0 b0).f0) == ((rd_T23 l1 b0).f0)) || (!(((rd_T23 l0 b0).f1) == ((rd_T23 l1 b0).f1)))) = true:=c7
    clear c7
    obtain rfl:=Option.some.inj H
    have b1:0 ≤ (b0:Int):=of_decide_eq_true (by first | (with_reducible assumption) | assumption)
    have b2:b0 < (l0.length:Int):=of_decide_eq_true (by first | (with_reducible assumption) | assumption)
    obtain ⟨d5,b9,b5,b6⟩:=at_T23 e3.out b0 b1 b2
    cases b9
    replace b1:=eq_true b1
    replace b2:=eq_true b2
    have b3:0 ≤ (b0:Int):=of_decide_eq_true (by first | (with_reducible assumption) | assumption)
    have b4:b0 < (l1.length:Int):=of_decide_eq_true (by first | (with_reducible assumption) | assumption)
    obtain ⟨d6,d0,b7,b8⟩:=at_T23 e4.out b0 b3 b4
    cases d0
    replace b3:=eq_true b3
    replace b4:=eq_true b4
    go_wp2
    repeat (go_quiet (fail);try go_wp2)
    go_ret
    exact ⟨by first | rfl | (simp;done) | (simp [*];done),by repeat (first | exact Drawn0.refl _ | apply Drawn0.step)⟩
   rw [if_neg c7] at H
   have d8:(!(((rd_T23 l0 b0).f0) == ((rd_T23 l1 b0).f0)) || (!(((rd_T23 l0 b0).f1) == ((rd_T23 l1 b0).f1)))) = false:=by simpa using c7
   clear c7
   have H':=Aside0.mk H
   clear H
   have b1:0 ≤ (b0:Int):=of_decide_eq_true (by first | (with_reducible assumption) | assumption)
   have b2:b0 < (l0.length:Int):=of_decide_eq_true (by first | (with_reducible assumption) | assumption)
   obtain ⟨d5,b9,b5,b6⟩:=at_T23 e3.out b0 b1 b2
   cases b9
   replace b1:=eq_true b1
   replace b2:=eq_true b2
   have b3:0 ≤ (b0:Int):=of_decide_eq_true (by first | (with_reducible assumption) | assumption)
   have b4:b0 < (l1.length:Int):=of_decide_eq_true (by first | (with_reducible assumption) | assumption)
   obtain ⟨d6,d0,b7,b8⟩:=at_T23 e4.out b0 b3 b4
   cases d0
   replace b3:=eq_true b3
   replace b4:=eq_true b4
   go_wp2
   repeat (go_quiet (fail);try go_wp2)
   go_roundg k1
   case measure=>have:=e5.out;omega
   case rel=>exact ⟨(wrap64 (b0 + 1)),(by first | rfl | (simp;done) | (simp [*];done)),H',⟨by have:=e5.out;omega⟩,by repeat (first | exact Drawn0.refl _ | apply Drawn0.step)⟩
end Go.Proofs.Ytjohcjfmlhihbaa.G
set_option linter.unusedSectionVars false
namespace Go.Proofs.Ytjohcjfmlhihbaa.P
open Go Go.RowKit Go.Proofs.Ytjohcjfmlhihbaa.G
open Go.Proofs.YtjohcjfmlhihbaaW.PrintWords Go.Proofs.YtjohcjfmlhihbaaW.PrintMore
theorem S23_ext {a b:S23} (h0:a.f0 = b.f0) (h1:a.f1 = b.f1):a = b:=by cases a;cases b;simp_all
instance:DecidableEq S23:=fun a b=>decidable_of_iff (a.f0 = b.f0 ∧ a.f1 = b.f1) ⟨fun h=>S23_ext h.1 h.2,fun h=>by rw [h];exact ⟨rfl,rfl⟩⟩
theorem rdT {a:List S23} {i:Nat} (h:i < a.length):rd_T23 a (i:Int) = a[i]:=by unfold rd_T23;simp [h]
theorem same_l0 {a b:List S23} (hl:a.length = b.length) (hs:a.length ≤ 1000000):∀ (d i:Nat),i + d = a.length → a.take i = b.take i → Ev (fun k=>numnahref07_Same.l0 k a b (i:Int)) (decide (a = b)):=by
 intro d
 induction d with
 | zero =>
  intro i hi ht
  rw [List.take_of_length_le (by omega),List.take_of_length_le (by omega)] at ht
  rw [decide_eq_true ht]
  refine Ev.step (f:=fun _=>some true) (fun k=>?_) (Ev.now _)
  rw [numnahref07_Same.l0,if_neg (by omega)]
 | succ d ih =>
  intro i hi ht
  have ha:i < a.length:=by omega
  have hb:i < b.length:=by omega
  by_cases e:a[i] = b[i]
  ·refine Ev.step (fun k=>?_) (ih (i + 1) (by omega) (by rw [List.take_succ_eq_append_getElem ha,List.take_succ_eq_append_getElem hb,ht,e]))
   rw [numnahref07_Same.l0,if_pos (by omega),if_pos (by omega),if_pos (by omega),rdT ha,rdT hb,e,if_neg (by simp),wrap_succ (by omega)]
  ·have hne:a ≠ b:=fun h=>e (by subst h;rfl)
   rw [decide_eq_false hne]
   refine Ev.step (f:=fun _=>some false) (fun k=>?_) (Ev.now _)
   rw [numnahref07_Same.l0,if_pos (by omega),if_pos (by omega),if_pos (by omega),rdT ha,rdT hb,if_pos]
   apply Classical.byContradiction
   intro h
   apply e
   simp only [Bool.or_eq_true,Bool.not_eq_true',beq_eq_false_iff_ne,not_or,Decidable.not_not,ne_eq] at h
   exact S23_ext h.1 h.2
theorem ev_same {a b:List S23} (hs:a.length ≤ 1000000):Ev (fun k=>numnahref07_Same.f k a b) (decide (a = b)):=by
 unfold numnahref07_Same.f
 by_cases hl:a.length = b.length
 ·refine Ev.congr (fun k=>if_pos (by omega)) ?_
  exact same_l0 hl hs a.length 0 (by omega) rfl
 ·rw [decide_eq_false (fun h=>hl (by rw [h]))]
  exact Ev.congr (fun k=>if_neg (by omega)) (Ev.now _)
theorem mn11 {n:Nat}:mn (n:Int) 11 = ((min n 11:Nat):Int):=by unfold mn;split <;> omega
theorem IsRule.len {r:Nat} {q:List Rat} {E:Rat} {x:List Rat} (h:IsRule r q E x):x.length = q.length:=by
 obtain ⟨_,_,rfl,_⟩:=h
 exact List.length_map _
end Go.Proofs.Ytjohcjfmlhihbaa.P
set_option linter.unusedSectionVars false
namespace Go.Proofs.Ytjohcjfmlhihbaa.P
open Go Go.RowKit Go.Proofs.Ytjohcjfmlhihbaa.G
open Go.Proofs.YtjohcjfmlhihbaaW.PrintWords Go.Proofs.YtjohcjfmlhihbaaW.PrintMore
theorem within_eq (n lo hi:Int):shares_within.f n lo hi = some (decide (lo ≤ n ∧ n ≤ hi)):=by
 unfold shares_within.f
 by_cases h:n ≥ lo
 ·rw [if_pos h]
  congr 1
  rw [Bool.eq_iff_iff,decide_eq_true_iff,decide_eq_true_iff]
  exact ⟨fun k=>⟨h,k⟩,fun k=>k.2⟩
 ·rw [if_neg h,decide_eq_false (fun k=>h k.1)]
def okW (c:Int) (w:S23):Prop:=1 ≤ w.f1 ∧ w.f1 ≤ 20 ∧ Nat.gcd w.f0.natAbs w.f1.toNat = 1 ∧ 0 ≤ w.f0 ∧ w.f0 ≤ c * w.f1
instance (c:Int) (w:S23):Decidable (okW c w):=by unfold okW;exact inferInstance
structure IsDiv (l:List Int) (E:Int) (x:List Rat):Prop where
 len:x.length = l.length
 ok:∀ i (h1:i < x.length) (h2:i < l.length),0 ≤ x[i] ∧ x[i] ≤ (l[i]:Rat) ∧ x[i].den ≤ 20
 sum:tot x = (E:Rat)
end Go.Proofs.Ytjohcjfmlhihbaa.P
namespace Go.Proofs.Ytjohcjfmlhihbaa.G
open Go Go.RowKit Go.Proofs.YtjohcjfmlhihbaaW.PrintWords
def contains102.f (l0:List Int):Option ((Bool)):=if H.fitL l0 then some (l0.any (fun x=>!decide (0 ≤ x ∧ x ≤ 200))) else none
theorem contains102.calls (A0:Option Addr) (c0:Nat) (l0:List Int) (r:Bool) (w:World) (hr0:Kd.C (Kd.int .i64) w A0 l0.length l0) (_:l0.length ≤ c0) (h:contains102.f l0 = some r) :
  Calls Try.prog 80 #[.slice A0 l0.length c0,.func (.func 102) #[] #[]] w fun e w'=>e = .returned (.bool r) ∧ Below w.heap.size w w':=by
 unfold contains102.f at h
 by_cases hf:H.fitL l0
 case neg =>
  rw [if_neg hf] at h
  cases h
 rw [if_pos hf] at h
 obtain rfl:=Option.some.inj h
 exact H.contains102 A0 c0 l0 w hr0 hf
end Go.Proofs.Ytjohcjfmlhihbaa.G
namespace Go.Proofs.Ytjohcjfmlhihbaa.G
open Go.RowKit Go.Proofs.YtjohcjfmlhihbaaW.PrintWords Go.Proofs.YtjohcjfmlhihbaaW.PrintLast Go.Proofs.YtjohcjfmlhihbaaW.PrintMore
set_option maxHeartbeats 8000000
set_option maxRecDepth 100000
attribute [local go_sem] cond_true cond_false fld23_0 fld23_1 fld45_0 fld45_1 fld109_0 fld109_1 fld94_0 fld94_1 max2_int min2_int max_two min_two max_three min_three max_four min_four
mutual
def shares_newNet.j0:Nat → List Int → List (S45) → Bool → Option (Bool)
 | 0,_,_,_=>none
 | k + 1,x0,x1,x23=>if x23 = true then (some false) else (shares_newNet.l0 k x0 x1 (x1.length:Int) 0)
def shares_newNet.l0:Nat → List Int → List (S45) → Int → Int → Option (Bool)
 | 0,_,_,_,_=>none
 | k + 1,x0,e2,h7,d9=>if d9 < h7 then (if 0 ≤ d9 then (if d9 < (e2.length:Int) then ((shares_within.f ((rd_T45 e2 d9).f0) 1 4).bind fun h8=>(if h8 = true then ((shares_within.f (((rd_T45 e2 d9).f1).length:Int) 1 (x0.length:Int)).bind fun e3=>(shares_newNet.j2 k x0 e2 h7 d9 (!e3) ((rd_T45 e2 d9).f0) ((rd_T45 e2 d9).f1))) else (shares_newNet.j2 k x0 e2 h7 d9 true ((rd_T45 e2 d9).f0) ((rd_T45 e2 d9).f1)))) else (none)) else (none)) else (some true)
def shares_newNet.j2:Nat → List Int → List (S45) → Int → Int → Bool → Int → List Int → Option (Bool)
 | 0,_,_,_,_,_,_,_=>none
 | k + 1,x0,e2,h7,d9,x43,x231000,b9=>if x43 = true then (some false) else (shares_newNet.l1 k x0 e2 h7 d9 b9 (b9.length:Int) 0 x231000 b9)
def shares_newNet.l1:Nat → List Int → List (S45) → Int → Int → List Int → Int → Int → Int → List Int → Option (Bool)
 | 0,_,_,_,_,_,_,_,_,_=>none
 | k + 1,x0,e2,h7,d9,l7,r8,h5,x231000,b9=>if h5 < r8 then (if 0 ≤ h5 then (if h5 < (l7.length:Int) then ((shares_within.f (rd l7 h5) 0 (wrap64 ((x0.length:Int) - 1))).bind fun h9=>(if h9 = true then (if h5 > 0 then (if 0 ≤ (wrap64 (h5 - 1)) then (if (wrap64 (h5 - 1)) < (b9.length:Int) then (if (rd b9 (wrap64 (h5 - 1))) ≥ (rd l7 h5) then (some false) else (shares_newNet.l1 k x0 e2 h7 d9 l7 r8 (wrap64 (h5 + 1)) x231000 b9)) else (none)) else (none)) else (shares_newNet.l1 k x0 e2 h7 d9 l7 r8 (wrap64 (h5 + 1)) x231000 b9)) else (some false))) else (none)) else (none)) else (shares_newNet.l0 k x0 e2 h7 (wrap64 (d9 + 1)))
end
def shares_newNet.f (k:Nat) (l0:List Int) (l1:List (S45)):Option (Bool):=(shares_within.f (l0.length:Int) 1 5).bind fun h3=>(if h3 = true then ((shares_within.f (l1.length:Int) 1 6).bind fun e0=>(if e0 = true then ((contains102.f l0).bind fun d6=>(shares_newNet.j0 k l0 l1 d6)) else (shares_newNet.j0 k l0 l1 true))) else (shares_newNet.j0 k l0 l1 true))
theorem shares_newNet.mono_l:∀ k,(∀ y0 y1 y2,LeO (shares_newNet.j0 k y0 y1 y2) (shares_newNet.j0 (k + 1) y0 y1 y2)) ∧ (∀ y0 y1 y2 y3,LeO (shares_newNet.l0 k y0 y1 y2 y3) (shares_newNet.l0 (k + 1) y0 y1 y2 y3)) ∧ (∀ y0 y1 y2 y3 y4 y5 y6,LeO (shares_newNet.j2 k y0 y1 y2 y3 y4 y5 y6) (shares_newNet.j2 (k + 1) y0 y1 y2 y3 y4 y5 y6)) ∧ (∀ y0 y1 y2 y3 y4 y5 y6 y7 y8,LeO (shares_newNet.l1 k y0 y1 y2 y3 y4 y5 y6 y7 y8) (shares_newNet.l1 (k + 1) y0 y1 y2 y3 y4 y5 y6 y7 y8))
 | 0=>⟨fun _ _ _ r h=>by simp [shares_newNet.j0] at h,fun _ _ _ _ r h=>by simp [shares_newNet.l0] at h,fun _ _ _ _ _ _ _ r h=>by simp [shares_newNet.j2] at h,fun _ _ _ _ _ _ _ _ _ r h=>by simp [shares_newNet.l1] at h⟩
 | k + 1=>by
  obtain ⟨i6,i7,i8,i9⟩:=shares_newNet.mono_l k
  refine ⟨?_,?_,?_,?_⟩
  ·intro y0 y1 y2
   unfold shares_newNet.j0
   repeat' first
   | (with_reducible first | exact i6 _ _ _ | exact i7 _ _ _ _ | exact i8 _ _ _ _ _ _ _ | exact i9 _ _ _ _ _ _ _ _ _ | exact LeO.refl _ | exact LeO.none _ | refine LeO.ite ?_ ?_ | refine LeO.bind ?_ (fun _=>?_))
   | exact LeO.none _ | refine LeO.ite ?_ ?_ | refine LeO.bind ?_ (fun _=>?_)
  ·intro y0 y1 y2 y3
   unfold shares_newNet.l0
   repeat' first
   | (with_reducible first | exact i6 _ _ _ | exact i7 _ _ _ _ | exact i8 _ _ _ _ _ _ _ | exact i9 _ _ _ _ _ _ _ _ _ | exact LeO.refl _ | exact LeO.none _ | refine LeO.ite ?_ ?_ | refine LeO.bind ?_ (fun _=>?_))
   | exact LeO.none _ | refine LeO.ite ?_ ?_ | refine LeO.bind ?_ (fun _=>?_)
  ·intro y0 y1 y2 y3 y4 y5 y6
   unfold shares_newNet.j2
   repeat' first
   | (with_reducible first | exact i6 _ _ _ | exact i7 _ _ _ _ | exact i8 _ _ _ _ _ _ _ | exact i9 _ _ _ _ _ _ _ _ _ | exact LeO.refl _ | exact LeO.none _ | refine LeO.ite ?_ ?_ | refine LeO.bind ?_ (fun _=>?_))
   | exact LeO.none _ | refine LeO.ite ?_ ?_ | refine LeO.bind ?_ (fun _=>?_)
  intro y0 y1 y2 y3 y4 y5 y6 y7 y8
  unfold shares_newNet.l1
  repeat' first
  | (with_reducible first | exact i6 _ _ _ | exact i7 _ _ _ _ | exact i8 _ _ _ _ _ _ _ | exact i9 _ _ _ _ _ _ _ _ _ | exact LeO.refl _ | exact LeO.none _ | refine LeO.ite ?_ ?_ | refine LeO.bind ?_ (fun _=>?_))
  | exact LeO.none _ | refine LeO.ite ?_ ?_ | refine LeO.bind ?_ (fun _=>?_)
theorem shares_newNet.mono:∀ a0 a1 k,LeO (shares_newNet.f k a0 a1) (shares_newNet.f (k + 1) a0 a1):=by
 intro a0 a1 k
 obtain ⟨i6,i7,i8,i9⟩:=shares_newNet.mono_l k
 unfold shares_newNet.f
 repeat' first
   | (with_reducible first | exact i6 _ _ _ | exact i7 _ _ _ _ | exact i8 _ _ _ _ _ _ _ | exact i9 _ _ _ _ _ _ _ _ _ | exact LeO.refl _ | exact LeO.none _ | refine LeO.ite ?_ ?_ | refine LeO.bind ?_ (fun _=>?_))
   | exact LeO.none _ | refine LeO.ite ?_ ?_ | refine LeO.bind ?_ (fun _=>?_)
theorem shares_newNet.calls (k:Nat) (A0:Option Addr) (c0:Nat) (l0:List Int) (A1:Option Addr) (c1:Nat) (l1:List (S45)) (r:Bool) (w:World) (s1:Kd.C (Kd.int .i64) w A0 l0.length l0) (s2:l0.length ≤ c0) (s3:Kd.C k45 w A1 l1.length l1) (s4:l1.length ≤ c1) (h:shares_newNet.f k l0 l1 = some r) :
  Calls Try.prog 70 #[.slice A0 l0.length c0,.slice A1 l1.length c1] w fun e w'=>e = .returned (.tuple #[cond r (.agg #[.slice A0 l0.length c0,.slice A1 l1.length c1]) (.agg #[.slice none 0 0,.slice none 0 0]),.bool r]) ∧ Below w.heap.size w w':=by
 have s5:=Try.underlying109
 have A6:=Try.underlying45
 have A8:=A_ s1
 have B0:=A_ s2
 clear s1 s2
 have C0:=A_ s3
 have C6:=A_ s4
 clear s3 s4
 have HB:=A_ (Below.refl w.heap.size w)
 have H:((shares_within.f (l0.length:Int) 1 5).bind fun h3=>(if h3 = true then ((shares_within.f (l1.length:Int) 1 6).bind fun e0=>(if e0 = true then ((contains102.f l0).bind fun d6=>(shares_newNet.j0 k l0 l1 d6)) else (shares_newNet.j0 k l0 l1 true))) else (shares_newNet.j0 k l0 l1 true))) = some r:=h
 clear h
 have r9:=A_ H
 clear H
 go_enter Try.func70,Try.ntmps70
 go_upto_region 1 with (first | ((with_reducible refine gate_dst (N:=4) rfl ?_);(try (refine gate_guard (by rfl) ?_;dsimp only));refine bx 4 #[.slice none 0 0,.slice none 0 0] 109 ?_;intro b5 hg w4 hbox hb;have b1:=A_ hbox;have l8:=gw hg HB;have s6:=l8;replace HB:=bB HB hb;clear hb hbox hg))
 (try simp only [Act.put,List.setIfInBounds_toArray,List.set_cons_zero,List.set_cons_succ])
 go_cut [23] (fun C1 wc=>∃ (kq:Nat) (e8:Bool),C1 = .bool e8 ∧ Aside0 (shares_newNet.j0 kq l0 l1 e8 = some r) ∧ Aside0 (kq ≤ k) ∧ Aside0 (wc.heap[b5]? = some (.cells #[(.slice none 0 0),(.slice none 0 0)] 109 (0,0))) ∧ Aside0 (Below w.heap.size w wc))
 case first =>
  have H:=r9.out
  clear r9
  replace H:=Option.bind_eq_some_iff.mp H
  obtain ⟨h3,s7,H⟩:=H
  replace H:(if h3 = true then ((shares_within.f (l1.length:Int) 1 6).bind fun e0=>(if e0 = true then ((contains102.f l0).bind fun d6=>(shares_newNet.j0 k l0 l1 d6)) else (shares_newNet.j0 k l0 l1 true))) else (shares_newNet.j0 k l0 l1 true)) = some r:=H
  have A5:=A_ s7
  clear s7
  by_cases c6:h3 = true
  case neg =>
   replace c6:=Bool.eq_false_iff.mpr c6
   subst c6
   rw [if_neg (show ¬ (false = true) by decide)] at H
   have H':=A_ H
   clear H
   go_wp2_with (first | ((with_reducible refine gate_callee (f:=92) rfl ?_);refine gL (some 12) Try.func92 #[.int .i64 (l0.length:Int),.int .i64 1,.int .i64 5] ?_;(with_reducible refine (shares_within.calls (l0.length:Int) 1 5 false _ A5.out).mono ?_);rintro e w' ⟨rfl,⟨nd,rfl⟩⟩;refine ⟨_,rfl,?_⟩))
   go_meet
   case rel=>exact ⟨_,(true),rfl,H',⟨by first | omega | exact Nat.le_refl _⟩,⟨by exact b1.out⟩,⟨bl HB⟩⟩
  subst c6
  rw [if_pos rfl] at H
  replace H:=Option.bind_eq_some_iff.mp H
  obtain ⟨e0,s8,H⟩:=H
  replace H:(if e0 = true then ((contains102.f l0).bind fun d6=>(shares_newNet.j0 k l0 l1 d6)) else (shares_newNet.j0 k l0 l1 true)) = some r:=H
  have A7:=A_ s8
  clear s8
  by_cases c8:e0 = true
  case neg =>
   replace c8:=Bool.eq_false_iff.mpr c8
   subst c8
   rw [if_neg (show ¬ (false = true) by decide)] at H
   have H':=A_ H
   clear H
   go_wp2_with (first | ((with_reducible refine gate_callee (f:=92) rfl ?_);refine gL (some 12) Try.func92 #[.int .i64 (l0.length:Int),.int .i64 1,.int .i64 5] ?_;(with_reducible refine (shares_within.calls (l0.length:Int) 1 5 true _ A5.out).mono ?_);rintro e w' ⟨rfl,⟨nd,rfl⟩⟩;refine ⟨_,rfl,?_⟩) | (go_at_call 92;(with_reducible refine (shares_within.calls (l1.length:Int) 1 6 false _ A7.out).mono ?_);rintro e w' ⟨rfl,⟨nd,rfl⟩⟩))
   go_meet
   case rel=>exact ⟨_,(true),rfl,H',⟨by first | omega | exact Nat.le_refl _⟩,⟨by exact b1.out⟩,⟨bl HB⟩⟩
  subst c8
  rw [if_pos rfl] at H
  replace H:=Option.bind_eq_some_iff.mp H
  obtain ⟨d6,s9,H⟩:=H
  replace H:(shares_newNet.j0 k l0 l1 d6) = some r:=H
  have A9:=A_ s9
  clear s9
  have H':=A_ H
  clear H
  go_wp2_with (first | ((with_reducible refine gate_callee (f:=92) rfl ?_);refine gL (some 12) Try.func92 #[.int .i64 (l0.length:Int),.int .i64 1,.int .i64 5] ?_;(with_reducible refine (shares_within.calls (l0.length:Int) 1 5 true _ A5.out).mono ?_);rintro e w' ⟨rfl,⟨nd,rfl⟩⟩;refine ⟨_,rfl,?_⟩) | (go_at_call 92;(with_reducible refine (shares_within.calls (l1.length:Int) 1 6 true _ A7.out).mono ?_);rintro e w' ⟨rfl,⟨nd,rfl⟩⟩) | (go_at_call 80;(with_reducible refine (contains102.calls _ _ l0 d6 _ ?side1 ?side2 A9.out).mono ?_);(case side1=>exact kc_ (Kd.C_below A8.out (bl HB)));(case side2=>exact B0.out);rintro e C7 ⟨rfl,hb⟩;replace b1:=kB b1 hb;replace HB:=bB HB hb;(try clear hb)))
  go_meet
  case rel=>exact ⟨_,(d6),rfl,H',⟨by first | omega | exact Nat.le_refl _⟩,⟨by exact b1.out⟩,⟨bl HB⟩⟩
 case rest =>
  clear r9
  obtain ⟨kq,e8,rfl,HA,i0,b1,HB⟩:=hcut
  cases kq with
  | zero=>exact absurd HA.out (by simp [shares_newNet.j0])
  | succ t0 =>
   have H:=HA.out
   clear HA
   simp only [shares_newNet.j0] at H
   by_cases m9:e8 = true
   ·subst m9
    rw [if_pos rfl] at H
    obtain rfl:=Option.some.inj H
    have n0:wc.cell? ⟨b5,0,none⟩ = some (.slice none 0 0):=cz b1 0
    have n1:wc.cell? ⟨b5,1,none⟩ = some (.slice none 0 0):=cz b1 1
    have n2:=blk_frozen b1.out 0
    have n3:=blk_frozen b1.out 1
    go_wp2
    refine bodyPost_ret (results_ct rfl _ _ b5 109 #[.slice none 0 0,.slice none 0 0] (0,0) _ rfl (by first | exact blk_put (blk_put b1.out 0 _ rfl) 1 _ rfl | exact blk_put (blk_put (blk_drewN b1.out _) 0 _ rfl) 1 _ rfl) Try.underlying109 rfl (by kernel_rfl)) rfl ?_
    exact ⟨rfl,bl HB⟩
   replace m9:=Bool.eq_false_iff.mpr m9
   subst m9
   rw [if_neg (show ¬ (false = true) by decide)] at H
   have H':=A_ H
   clear H
   go_wp2
   go_loopg [27] t0 (fun kq C2 w'=>∃ (b0:Int),C2 = .int .i64 b0 ∧ Aside0 (shares_newNet.l0 kq l0 l1 (l1.length:Int) b0 = some r) ∧ Aside0 (kq ≤ t0) ∧ Aside0 (w'.heap[b5]? = some (.cells #[(.slice none 0 0),(.slice none 0 0)] 109 (0,0))) ∧ Aside0 (Below w.heap.size w w'))
   case atStart=>exact ⟨(0),rfl,H',⟨Nat.le_refl _⟩,⟨by exact b1.out⟩,⟨bl HB⟩⟩
   case round =>
    clear H'
    obtain ⟨b0,rfl,HA,i1,b1,HB⟩:=hrel
    cases gk with
    | zero=>exact absurd HA.out (by simp [shares_newNet.l0])
    | succ k2 =>
     have H:=HA.out
     clear HA
     simp only [shares_newNet.l0] at H
     by_cases j5:b0 < (l1.length:Int)
     case neg =>
      rw [if_neg j5] at H
      have l9:=decide_eq_false j5
      clear j5
      obtain rfl:=Option.some.inj H
      have n4:wr.cell? ⟨b5,0,none⟩ = some (.slice none 0 0):=cz b1 0
      have n5:wr.cell? ⟨b5,1,none⟩ = some (.slice none 0 0):=cz b1 1
      have n6:=blk_frozen b1.out 0
      have n7:=blk_frozen b1.out 1
      go_wp2
      refine bodyPost_ret (results_ct rfl _ _ b5 109 #[.slice A0 l0.length c0,.slice A1 l1.length c1] (0,0) _ rfl (by first | exact blk_put (blk_put b1.out 0 _ rfl) 1 _ rfl | exact blk_put (blk_put (blk_drewN b1.out _) 0 _ rfl) 1 _ rfl) Try.underlying109 rfl (by kernel_rfl)) rfl ?_
      exact ⟨rfl,bl HB⟩
     rw [if_pos j5] at H
     have l9:=decide_eq_true j5
     clear j5
     replace H:=gd H
     obtain ⟨t1,H⟩:=H
     have t2:=decide_eq_true t1
     clear t1
     replace H:=gd H
     obtain ⟨t3,H⟩:=H
     have t4:=decide_eq_true t3
     clear t3
     have i2:=A_ H
     clear H
     have i3:0 ≤ (b0:Int):=of_decide_eq_true (by assumption)
     have i4:b0 < (l1.length:Int):=of_decide_eq_true (by assumption)
     obtain ⟨t5,e4,d1,s0,e9,h0,h1,h2⟩:=at_T45 C0.out b0 i3 i4
     cases s0
     replace e9:=cT HB e9
     replace h0:=cT HB h0
     have d0:=A_ h2
     have n8:=A_ h1
     clear h2 h1
     replace i3:=eq_true i3
     replace i4:=eq_true i4
     go_upto_region 6 with (first | ((with_reducible refine gate_dst (N:=7) rfl ?_);(try (refine gate_guard (by rfl) ?_;dsimp only));refine bx 7 #[.int .i64 0,.slice none 0 0] 45 ?_;intro b8 hg j7 hbox hb;have b3:=A_ hbox;have m0:=gw hg HB;have t6:=m0;have b4:=nl hg b1;have b6:=ng hg b1;replace b1:=kB b1 hb;replace HB:=bB HB hb;clear hb hbox hg;have t7:=b6.out;have t8:=b4.out;have n9:j7.cell? ⟨b8,0,none⟩ = some (.int .i64 0):=cz b3 0;have o0:j7.cell? ⟨b8,1,none⟩ = some (.slice none 0 0):=cz b3 1;have o1:=blk_frozen b3.out 0;have o2:=blk_frozen b3.out 1))
     (try simp only [Act.put,List.setIfInBounds_toArray,List.set_cons_zero,List.set_cons_succ])
     go_cut [43] (fun C3 wc=>∃ (kq:Nat) (d8:Bool),C3 = .bool d8 ∧ Aside0 (shares_newNet.j2 kq l0 l1 (l1.length:Int) b0 d8 ((rd_T45 l1 b0).f0) ((rd_T45 l1 b0).f1) = some r) ∧ Aside0 (kq ≤ k2) ∧ Aside0 (wc.heap[b5]? = some (.cells #[(.slice none 0 0),(.slice none 0 0)] 109 (0,0))) ∧ Aside0 (wc.heap[b8]? = some (.cells #[.int .i64 ((rd_T45 l1 b0).f0),(.slice e4 ((rd_T45 l1 b0).f1).length d1)] 45 (0,0))) ∧ Aside0 (Below w.heap.size w wc))
     case first =>
      have H:=i2.out
      clear i2
      replace H:=Option.bind_eq_some_iff.mp H
      obtain ⟨h8,m1,H⟩:=H
      replace H:(if h8 = true then ((shares_within.f (((rd_T45 l1 b0).f1).length:Int) 1 (l0.length:Int)).bind fun e3=>(shares_newNet.j2 k2 l0 l1 (l1.length:Int) b0 (!e3) ((rd_T45 l1 b0).f0) ((rd_T45 l1 b0).f1))) else (shares_newNet.j2 k2 l0 l1 (l1.length:Int) b0 true ((rd_T45 l1 b0).f0) ((rd_T45 l1 b0).f1))) = some r:=H
      have t9:=A_ m1
      clear m1
      by_cases o3:h8 = true
      case neg =>
       replace o3:=Bool.eq_false_iff.mpr o3
       subst o3
       rw [if_neg (show ¬ (false = true) by decide)] at H
       have H':=A_ H
       clear H
       have x2:=b6.out
       have x3:=b4.out
       have o4:j7.cell? ⟨b8,0,none⟩ = some (.int .i64 0):=cz b3 0
       have o5:j7.cell? ⟨b8,1,none⟩ = some (.slice none 0 0):=cz b3 1
       have o6:=blk_frozen b3.out 0
       have o7:=blk_frozen b3.out 1
       go_wp2_with (first | ((with_reducible refine gate_callee (f:=92) rfl ?_);refine gL (some 33) Try.func92 #[.int .i64 ((rd_T45 l1 b0).f0),.int .i64 1,.int .i64 4] ?_;(with_reducible refine (shares_within.calls ((rd_T45 l1 b0).f0) 1 4 false _ t9.out).mono ?_);rintro e w' ⟨rfl,⟨nd,rfl⟩⟩;refine ⟨_,rfl,?_⟩))
       go_meet
       case rel=>exact ⟨_,(true),rfl,H',⟨by have:=i0.out;have:=i1.out;first | omega | exact Nat.le_refl _⟩,⟨by refine blk_far ?_ b4.out _;refine blk_far ?_ b4.out _;exact b1.out⟩,⟨by refine blk_put (cs:=#[.int .i64 ((rd_T45 l1 b0).f0),.slice none 0 0]) ?_ 1 _ rfl;refine blk_put (cs:=#[.int .i64 0,.slice none 0 0]) ?_ 0 _ rfl;exact b3.out⟩,⟨bl HB⟩⟩
      subst o3
      rw [if_pos rfl] at H
      replace H:=Option.bind_eq_some_iff.mp H
      obtain ⟨e3,m2,H⟩:=H
      replace H:(shares_newNet.j2 k2 l0 l1 (l1.length:Int) b0 (!e3) ((rd_T45 l1 b0).f0) ((rd_T45 l1 b0).f1)) = some r:=H
      have C4:=A_ m2
      clear m2
      have H':=A_ H
      clear H
      have x4:=b6.out
      have x5:=b4.out
      have o8:j7.cell? ⟨b8,0,none⟩ = some (.int .i64 0):=cz b3 0
      have o9:j7.cell? ⟨b8,1,none⟩ = some (.slice none 0 0):=cz b3 1
      have p0:=blk_frozen b3.out 0
      have p1:=blk_frozen b3.out 1
      go_wp2_with (first | ((with_reducible refine gate_callee (f:=92) rfl ?_);refine gL (some 33) Try.func92 #[.int .i64 ((rd_T45 l1 b0).f0),.int .i64 1,.int .i64 4] ?_;(with_reducible refine (shares_within.calls ((rd_T45 l1 b0).f0) 1 4 true _ t9.out).mono ?_);rintro e w' ⟨rfl,⟨nd,rfl⟩⟩;refine ⟨_,rfl,?_⟩) | (go_at_call 92;(with_reducible refine (shares_within.calls (((rd_T45 l1 b0).f1).length:Int) 1 (l0.length:Int) e3 _ C4.out).mono ?_);rintro e w' ⟨rfl,⟨nd,rfl⟩⟩))
      go_meet
      case rel=>exact ⟨_,(!e3),rfl,H',⟨by have:=i0.out;have:=i1.out;first | omega | exact Nat.le_refl _⟩,⟨by refine blk_far ?_ b4.out _;refine blk_far ?_ b4.out _;exact b1.out⟩,⟨by refine blk_put (cs:=#[.int .i64 ((rd_T45 l1 b0).f0),.slice none 0 0]) ?_ 1 _ rfl;refine blk_put (cs:=#[.int .i64 0,.slice none 0 0]) ?_ 0 _ rfl;exact b3.out⟩,⟨bl HB⟩⟩
     case rest =>
      clear i2
      obtain ⟨kq,d8,rfl,HA,h4,b1,b3,HB⟩:=hcut
      cases kq with
      | zero=>exact absurd HA.out (by simp [shares_newNet.j2])
      | succ m3 =>
       have H:=HA.out
       clear HA
       simp only [shares_newNet.j2] at H
       by_cases p2:d8 = true
       ·subst p2
        rw [if_pos rfl] at H
        obtain rfl:=Option.some.inj H
        have x6:=b4.out
        have x7:=b6.out
        have p3:wc.cell? ⟨b5,0,none⟩ = some (.slice none 0 0):=cz b1 0
        have p4:wc.cell? ⟨b5,1,none⟩ = some (.slice none 0 0):=cz b1 1
        have p5:=blk_frozen b1.out 0
        have p6:=blk_frozen b1.out 1
        go_wp2
        refine bodyPost_ret (results_ct rfl _ _ b5 109 #[.slice none 0 0,.slice none 0 0] (0,0) _ rfl (by first | exact blk_put (blk_put b1.out 0 _ rfl) 1 _ rfl | exact blk_put (blk_put (blk_drewN b1.out _) 0 _ rfl) 1 _ rfl) Try.underlying109 rfl (by kernel_rfl)) rfl ?_
        exact ⟨rfl,bl HB⟩
       replace p2:=Bool.eq_false_iff.mpr p2
       subst p2
       rw [if_neg (show ¬ (false = true) by decide)] at H
       have H':=A_ H
       clear H
       have x8:=b6.out
       have x9:=b4.out
       have p7:wc.cell? ⟨b8,0,none⟩ = some (.int .i64 ((rd_T45 l1 b0).f0)):=cz b3 0
       have p8:wc.cell? ⟨b8,1,none⟩ = some (.slice e4 ((rd_T45 l1 b0).f1).length d1):=cz b3 1
       have p9:=blk_frozen b3.out 0
       have q0:=blk_frozen b3.out 1
       go_wp2
       go_loopg [48] m3 (fun kq C5 w'=>∃ (b2:Int),C5 = .int .i64 b2 ∧ Aside0 (shares_newNet.l1 kq l0 l1 (l1.length:Int) b0 ((rd_T45 l1 b0).f1) (((rd_T45 l1 b0).f1).length:Int) b2 ((rd_T45 l1 b0).f0) ((rd_T45 l1 b0).f1) = some r) ∧ Aside0 (kq ≤ m3) ∧ Aside0 (w'.heap[b5]? = some (.cells #[(.slice none 0 0),(.slice none 0 0)] 109 (0,0))) ∧ Aside0 (w'.heap[b8]? = some (.cells #[.int .i64 ((rd_T45 l1 b0).f0),(.slice e4 ((rd_T45 l1 b0).f1).length d1)] 45 (0,0))) ∧ Aside0 (Below w.heap.size w w'))
       case atStart=>exact ⟨(0),rfl,H',⟨Nat.le_refl _⟩,⟨by exact b1.out⟩,⟨by exact b3.out⟩,⟨bl HB⟩⟩
       case round =>
        clear H'
        obtain ⟨b2,rfl,HA,j8,b1,b3,HB⟩:=hrel
        cases gk with
        | zero=>exact absurd HA.out (by simp [shares_newNet.l1])
        | succ k4 =>
         have H:=HA.out
         clear HA
         simp only [shares_newNet.l1] at H
         by_cases j9:b2 < (((rd_T45 l1 b0).f1).length:Int)
         case neg =>
          rw [if_neg j9] at H
          have m4:=decide_eq_false j9
          clear j9
          have H':=A_ H
          clear H
          go_wp2
          go_roundg k4
          case measure=>have:=i0.out;have:=i1.out;have:=h4.out;have:=j8.out;omega
          case rel=>exact ⟨(wrap64 (b0 + 1)),rfl,H',⟨by have:=i0.out;have:=i1.out;have:=h4.out;have:=j8.out;omega⟩,⟨by exact b1.out⟩,⟨bl HB⟩⟩
         rw [if_pos j9] at H
         have m4:=decide_eq_true j9
         clear j9
         replace H:=gd H
         obtain ⟨y9,H⟩:=H
         have z0:=decide_eq_true y9
         clear y9
         replace H:=gd H
         obtain ⟨z1,H⟩:=H
         have z2:=decide_eq_true z1
         clear z1
         replace H:=Option.bind_eq_some_iff.mp H
         obtain ⟨h9,m5,H⟩:=H
         replace H:(if h9 = true then (if b2 > 0 then (if 0 ≤ (wrap64 (b2 - 1)) then (if (wrap64 (b2 - 1)) < (((rd_T45 l1 b0).f1).length:Int) then (if (rd ((rd_T45 l1 b0).f1) (wrap64 (b2 - 1))) ≥ (rd ((rd_T45 l1 b0).f1) b2) then (some false) else (shares_newNet.l1 k4 l0 l1 (l1.length:Int) b0 ((rd_T45 l1 b0).f1) (((rd_T45 l1 b0).f1).length:Int) (wrap64 (b2 + 1)) ((rd_T45 l1 b0).f0) ((rd_T45 l1 b0).f1))) else (none)) else (none)) else (shares_newNet.l1 k4 l0 l1 (l1.length:Int) b0 ((rd_T45 l1 b0).f1) (((rd_T45 l1 b0).f1).length:Int) (wrap64 (b2 + 1)) ((rd_T45 l1 b0).f0) ((rd_T45 l1 b0).f1))) else (some false)) = some r:=H
         have m6:=A_ m5
         clear m5
         by_cases q1:h9 = true
         case neg =>
          replace q1:=Bool.eq_false_iff.mpr q1
          subst q1
          rw [if_neg (show ¬ (false = true) by decide)] at H
          obtain rfl:=Option.some.inj H
          have d2:0 ≤ (b2:Int):=of_decide_eq_true (by assumption)
          have d3:b2 < (((rd_T45 l1 b0).f1).length:Int):=of_decide_eq_true (by assumption)
          obtain ⟨d4,e5,b7⟩:=Kd.at_int d0.out b2 d2 d3
          cases e5
          replace b7:=cT HB b7
          replace d2:=eq_true d2
          replace d3:=eq_true d3
          go_wp2_with (first | ((with_reducible refine gate_callee (f:=92) rfl ?_);refine gL (some 57) Try.func92 #[.int .i64 (rd ((rd_T45 l1 b0).f1) b2),.int .i64 0,.int .i64 (wrap64 ((l0.length:Int) - 1))] ?_;(with_reducible refine (shares_within.calls (rd ((rd_T45 l1 b0).f1) b2) 0 (wrap64 ((l0.length:Int) - 1)) false _ m6.out).mono ?_);rintro e w' ⟨rfl,⟨nd,rfl⟩⟩;refine ⟨_,rfl,?_⟩;(try (rw [drewN_self wr];generalize hq_:World.drewN wr _ = wr;replace b1:Aside0 (wr.heap[b5]? = some (.cells #[.slice none 0 0,.slice none 0 0] 109 (0,0))):=⟨by rw [← hq_];exact b1.out⟩;replace b3:Aside0 (wr.heap[b8]? = some (.cells #[.int .i64 ((rd_T45 l1 b0).f0),.slice (some d4) ((rd_T45 l1 b0).f1).length d1] 45 (0,0))):=⟨by rw [← hq_];exact b3.out⟩;replace HB:Aside0 (Below w.heap.size w wr):=⟨by rw [← hq_];exact HB.out⟩;clear hq_));have z3:=b4.out;have z4:=b6.out;have q2:wr.cell? ⟨b5,0,none⟩ = some (.slice none 0 0):=cz b1 0;have q3:wr.cell? ⟨b5,1,none⟩ = some (.slice none 0 0):=cz b1 1;have q4:=blk_frozen b1.out 0;have q5:=blk_frozen b1.out 1))
          refine bodyPost_ret (results_ct rfl _ _ b5 109 #[.slice none 0 0,.slice none 0 0] (0,0) _ rfl (by first | exact blk_put (blk_put b1.out 0 _ rfl) 1 _ rfl | exact blk_put (blk_put (blk_drewN b1.out _) 0 _ rfl) 1 _ rfl) Try.underlying109 rfl (by kernel_rfl)) rfl ?_
          exact ⟨rfl,bl HB⟩
         subst q1
         rw [if_pos rfl] at H
         by_cases l5:b2 > 0
         case neg =>
          rw [if_neg l5] at H
          have m7:=decide_eq_false l5
          clear l5
          have H':=A_ H
          clear H
          have d2:0 ≤ (b2:Int):=of_decide_eq_true (by assumption)
          have d3:b2 < (((rd_T45 l1 b0).f1).length:Int):=of_decide_eq_true (by assumption)
          obtain ⟨d4,e5,b7⟩:=Kd.at_int d0.out b2 d2 d3
          cases e5
          replace b7:=cT HB b7
          replace d2:=eq_true d2
          replace d3:=eq_true d3
          go_wp2_with (first | ((with_reducible refine gate_callee (f:=92) rfl ?_);refine gL (some 57) Try.func92 #[.int .i64 (rd ((rd_T45 l1 b0).f1) b2),.int .i64 0,.int .i64 (wrap64 ((l0.length:Int) - 1))] ?_;(with_reducible refine (shares_within.calls (rd ((rd_T45 l1 b0).f1) b2) 0 (wrap64 ((l0.length:Int) - 1)) true _ m6.out).mono ?_);rintro e w' ⟨rfl,⟨nd,rfl⟩⟩;refine ⟨_,rfl,?_⟩))
          go_roundg k4
          case measure=>have:=i0.out;have:=i1.out;have:=h4.out;have:=j8.out;omega
          case rel=>exact ⟨(wrap64 (b2 + 1)),rfl,H',⟨by have:=i0.out;have:=i1.out;have:=h4.out;have:=j8.out;omega⟩,⟨by exact b1.out⟩,⟨by exact b3.out⟩,⟨bl HB⟩⟩
         rw [if_pos l5] at H
         have m7:=decide_eq_true l5
         clear l5
         obtain ⟨d7,e1⟩:∃ j_:Int,(wrap64 (b2 - 1)) = j_:=⟨_,rfl⟩
         replace H:(if 0 ≤ (d7) then (if (d7) < (((rd_T45 l1 b0).f1).length:Int) then (if (rd ((rd_T45 l1 b0).f1) (d7)) ≥ (rd ((rd_T45 l1 b0).f1) b2) then (some false) else (shares_newNet.l1 k4 l0 l1 (l1.length:Int) b0 ((rd_T45 l1 b0).f1) (((rd_T45 l1 b0).f1).length:Int) (wrap64 (b2 + 1)) ((rd_T45 l1 b0).f0) ((rd_T45 l1 b0).f1))) else (none)) else (none)) = some r:=by first | (rw [e1] at H;exact H) | (simp only [e1] at H ⊢;exact H)
         (try rw [e1] at m6)
         have hji38w:(IntKind.i64.wrap (b2 - 1)) = d7:=(i64_w _).trans e1
         replace H:=gd H
         obtain ⟨z5,H⟩:=H
         have z6:=decide_eq_true z5
         clear z5
         replace H:=gd H
         obtain ⟨z7,H⟩:=H
         have z8:=decide_eq_true z7
         clear z7
         by_cases l6:(rd ((rd_T45 l1 b0).f1) (d7)) ≥ (rd ((rd_T45 l1 b0).f1) b2)
         case neg =>
          rw [if_neg l6] at H
          have m8:=decide_eq_false l6
          clear l6
          have H':=A_ H
          clear H
          have d2:0 ≤ (b2:Int):=of_decide_eq_true (by assumption)
          have d3:b2 < (((rd_T45 l1 b0).f1).length:Int):=of_decide_eq_true (by assumption)
          obtain ⟨d4,e5,b7⟩:=Kd.at_int d0.out b2 d2 d3
          cases e5
          replace b7:=cT HB b7
          replace d2:=eq_true d2
          replace d3:=eq_true d3
          go_wp2_with (first | ((with_reducible refine gate_callee (f:=92) rfl ?_);refine gL (some 57) Try.func92 #[.int .i64 (rd ((rd_T45 l1 b0).f1) b2),.int .i64 0,.int .i64 (wrap64 ((l0.length:Int) - 1))] ?_;(with_reducible refine (shares_within.calls (rd ((rd_T45 l1 b0).f1) b2) 0 (wrap64 ((l0.length:Int) - 1)) true _ m6.out).mono ?_);rintro e w' ⟨rfl,⟨nd,rfl⟩⟩;refine ⟨_,rfl,?_⟩;have z9:=b6.out;have A2:=b4.out;have q6:wr.cell? ⟨b8,0,none⟩ = some (.int .i64 ((rd_T45 l1 b0).f0)):=cz b3 0;have q7:wr.cell? ⟨b8,1,none⟩ = some (.slice (some d4) ((rd_T45 l1 b0).f1).length d1):=cz b3 1;have q8:=blk_frozen b3.out 0;have q9:=blk_frozen b3.out 1;have e6:0 ≤ ((d7):Int):=of_decide_eq_true (by assumption);have e7:(d7) < (((rd_T45 l1 b0).f1).length:Int):=of_decide_eq_true (by assumption);obtain ⟨h6,i5,d5⟩:=Kd.at_int d0.out (d7) e6 e7;obtain rfl:d4 = h6:=(by injection i5);replace d5:=cT HB d5;replace e6:=eq_true e6;replace e7:=eq_true e7))
          go_roundg k4
          case measure=>have:=i0.out;have:=i1.out;have:=h4.out;have:=j8.out;omega
          case rel=>exact ⟨(wrap64 (b2 + 1)),rfl,H',⟨by have:=i0.out;have:=i1.out;have:=h4.out;have:=j8.out;omega⟩,⟨by exact b1.out⟩,⟨by exact b3.out⟩,⟨bl HB⟩⟩
         rw [if_pos l6] at H
         have m8:=decide_eq_true l6
         clear l6
         obtain rfl:=Option.some.inj H
         have d2:0 ≤ (b2:Int):=of_decide_eq_true (by assumption)
         have d3:b2 < (((rd_T45 l1 b0).f1).length:Int):=of_decide_eq_true (by assumption)
         obtain ⟨d4,e5,b7⟩:=Kd.at_int d0.out b2 d2 d3
         cases e5
         replace b7:=cT HB b7
         replace d2:=eq_true d2
         replace d3:=eq_true d3
         go_wp2_with (first | ((with_reducible refine gate_callee (f:=92) rfl ?_);refine gL (some 57) Try.func92 #[.int .i64 (rd ((rd_T45 l1 b0).f1) b2),.int .i64 0,.int .i64 (wrap64 ((l0.length:Int) - 1))] ?_;(with_reducible refine (shares_within.calls (rd ((rd_T45 l1 b0).f1) b2) 0 (wrap64 ((l0.length:Int) - 1)) true _ m6.out).mono ?_);rintro e w' ⟨rfl,⟨nd,rfl⟩⟩;refine ⟨_,rfl,?_⟩;(try (rw [drewN_self wr];generalize hq_:World.drewN wr _ = wr;replace b1:Aside0 (wr.heap[b5]? = some (.cells #[.slice none 0 0,.slice none 0 0] 109 (0,0))):=⟨by rw [← hq_];exact b1.out⟩;replace b3:Aside0 (wr.heap[b8]? = some (.cells #[.int .i64 ((rd_T45 l1 b0).f0),.slice (some d4) ((rd_T45 l1 b0).f1).length d1] 45 (0,0))):=⟨by rw [← hq_];exact b3.out⟩;replace HB:Aside0 (Below w.heap.size w wr):=⟨by rw [← hq_];exact HB.out⟩;clear hq_));have A3:=b6.out;have A4:=b4.out;have r0:wr.cell? ⟨b8,0,none⟩ = some (.int .i64 ((rd_T45 l1 b0).f0)):=cz b3 0;have r1:wr.cell? ⟨b8,1,none⟩ = some (.slice (some d4) ((rd_T45 l1 b0).f1).length d1):=cz b3 1;have r2:=blk_frozen b3.out 0;have r3:=blk_frozen b3.out 1;have e6:0 ≤ ((d7):Int):=of_decide_eq_true (by assumption);have e7:(d7) < (((rd_T45 l1 b0).f1).length:Int):=of_decide_eq_true (by assumption);obtain ⟨h6,i5,d5⟩:=Kd.at_int d0.out (d7) e6 e7;obtain rfl:d4 = h6:=(by injection i5);replace d5:=cT HB d5;replace e6:=eq_true e6;replace e7:=eq_true e7;have r4:wr.cell? ⟨b5,0,none⟩ = some (.slice none 0 0):=cz b1 0;have r5:wr.cell? ⟨b5,1,none⟩ = some (.slice none 0 0):=cz b1 1;have r6:=blk_frozen b1.out 0;have r7:=blk_frozen b1.out 1))
         refine bodyPost_ret (results_ct rfl _ _ b5 109 #[.slice none 0 0,.slice none 0 0] (0,0) _ rfl (by first | exact blk_put (blk_put b1.out 0 _ rfl) 1 _ rfl | exact blk_put (blk_put (blk_drewN b1.out _) 0 _ rfl) 1 _ rfl) Try.underlying109 rfl (by kernel_rfl)) rfl ?_
         exact ⟨by first | rfl | (simp [errW_none,errW_some] <;> rfl) | (simp only [← e1];first | rfl | (simp [errW_none,errW_some] <;> rfl)) | (simp [*,errW_none,errW_some] <;> rfl),bl HB⟩
mutual
def numnahref07_Users.l0:Nat → List Int → List (S45) → Int → Option (Bool)
 | 0,_,_,_=>none
 | k + 1,x0,x1,x5=>if x5 < (x0.length:Int) then (if 0 ≤ x5 then (if (rd x0 x5) < 0 then (some false) else (if (rd x0 x5) > 200 then (some false) else (numnahref07_Users.l0 k x0 x1 (wrap64 (x5 + 1))))) else (none)) else (numnahref07_Users.l1 k x0 x1 0)
def numnahref07_Users.l1:Nat → List Int → List (S45) → Int → Option (Bool)
 | 0,_,_,_=>none
 | k + 1,x0,x1,x6=>if x6 < (x1.length:Int) then (if 0 ≤ x6 then (numnahref07_Users.l2 k x0 x1 x6 ((rd_T45 x1 x6).f1) 0) else (none)) else (if (x0.length:Int) ≥ 1 then (if (x0.length:Int) ≤ 5 then (if (x1.length:Int) ≥ 1 then (some (decide ((x1.length:Int) ≤ 6))) else (some false)) else (some false)) else (some false))
def numnahref07_Users.l2:Nat → List Int → List (S45) → Int → List Int → Int → Option (Bool)
 | 0,_,_,_,_,_=>none
 | k + 1,x0,x1,x6,x7,x8=>if x8 < (x7.length:Int) then (if 0 ≤ x8 then (if (rd x7 x8) < 0 then (some false) else (if (rd x7 x8) ≥ (x0.length:Int) then (some false) else (if x8 > 0 then (if 0 ≤ (wrap64 (x8 - 1)) then (if (wrap64 (x8 - 1)) < (x7.length:Int) then (if (rd x7 (wrap64 (x8 - 1))) ≥ (rd x7 x8) then (some false) else (numnahref07_Users.l2 k x0 x1 x6 x7 (wrap64 (x8 + 1)))) else (none)) else (none)) else (numnahref07_Users.l2 k x0 x1 x6 x7 (wrap64 (x8 + 1)))))) else (none)) else (if 0 ≤ x6 then (if x6 < (x1.length:Int) then (if ((rd_T45 x1 x6).f0) < 1 then (some false) else (if ((rd_T45 x1 x6).f0) > 4 then (some false) else (if (x7.length:Int) < 1 then (some false) else (numnahref07_Users.l1 k x0 x1 (wrap64 (x6 + 1)))))) else (none)) else (none))
end
def numnahref07_Users.f (k:Nat) (l0:List Int) (l1:List (S45)):Option (Bool):=numnahref07_Users.l0 k l0 l1 0
theorem numnahref07_Users.mono_l:∀ k,(∀ y0 y1 y2,LeO (numnahref07_Users.l0 k y0 y1 y2) (numnahref07_Users.l0 (k + 1) y0 y1 y2)) ∧ (∀ y0 y1 y2,LeO (numnahref07_Users.l1 k y0 y1 y2) (numnahref07_Users.l1 (k + 1) y0 y1 y2)) ∧ (∀ y0 y1 y2 y3 y4,LeO (numnahref07_Users.l2 k y0 y1 y2 y3 y4) (numnahref07_Users.l2 (k + 1) y0 y1 y2 y3 y4))
 | 0=>⟨fun _ _ _ r h=>by simp [numnahref07_Users.l0] at h,fun _ _ _ r h=>by simp [numnahref07_Users.l1] at h,fun _ _ _ _ _ r h=>by simp [numnahref07_Users.l2] at h⟩
 | k + 1=>by
  obtain ⟨o3,o4,o5⟩:=numnahref07_Users.mono_l k
  refine ⟨?_,?_,?_⟩
  ·intro y0 y1 y2
   unfold numnahref07_Users.l0
   repeat' first
   | (with_reducible first | exact o3 _ _ _ | exact o4 _ _ _ | exact o5 _ _ _ _ _ | exact LeO.refl _ | exact LeO.none _ | refine LeO.ite ?_ ?_ | refine LeO.bind ?_ (fun _=>?_))
   | exact LeO.none _ | refine LeO.ite ?_ ?_ | refine LeO.bind ?_ (fun _=>?_)
  ·intro y0 y1 y2
   unfold numnahref07_Users.l1
   repeat' first
   | (with_reducible first | exact o3 _ _ _ | exact o4 _ _ _ | exact o5 _ _ _ _ _ | exact LeO.refl _ | exact LeO.none _ | refine LeO.ite ?_ ?_ | refine LeO.bind ?_ (fun _=>?_))
   | exact LeO.none _ | refine LeO.ite ?_ ?_ | refine LeO.bind ?_ (fun _=>?_)
  intro y0 y1 y2 y3 y4
  unfold numnahref07_Users.l2
  repeat' first
  | (with_reducible first | exact o3 _ _ _ | exact o4 _ _ _ | exact o5 _ _ _ _ _ | exact LeO.refl _ | exact LeO.none _ | refine LeO.ite ?_ ?_ | refine LeO.bind ?_ (fun _=>?_))
  | exact LeO.none _ | refine LeO.ite ?_ ?_ | refine LeO.bind ?_ (fun _=>?_)
theorem numnahref07_Users.mono:∀ a0 a1 k,LeO (numnahref07_Users.f k a0 a1) (numnahref07_Users.f (k + 1) a0 a1):=by
 intro a0 a1 k
 obtain ⟨o3,o4,o5⟩:=numnahref07_Users.mono_l k
 unfold numnahref07_Users.f
 repeat' first
   | (with_reducible first | exact o3 _ _ _ | exact o4 _ _ _ | exact o5 _ _ _ _ _ | exact LeO.refl _ | exact LeO.none _ | refine LeO.ite ?_ ?_ | refine LeO.bind ?_ (fun _=>?_))
   | exact LeO.none _ | refine LeO.ite ?_ ?_ | refine LeO.bind ?_ (fun _=>?_)
theorem numnahref07_Users.calls (k:Nat) (A0:Option Addr) (c0:Nat) (l0:List Int) (A1:Option Addr) (c1:Nat) (l1:List (S45)) (r:Bool) (w:World) (r2:Kd.C (Kd.int .i64) w A0 l0.length l0) (r3:l0.length ≤ c0) (r4:Kd.C k45 w A1 l1.length l1) (r5:l1.length ≤ c1) (h:numnahref07_Users.f k l0 l1 = some r) :
  Calls Try.prog 41 #[.slice A0 l0.length c0,.slice A1 l1.length c1] w fun e w'=>e = .returned (.bool r) ∧ Drawn0 w w':=by
 have o6:=A_ r2
 have s7:=A_ r3
 clear r2 r3
 have m4:=A_ r4
 have s8:=A_ r5
 clear r4 r5
 have H:(numnahref07_Users.l0 k l0 l1 0) = some r:=h
 clear h
 have H':=A_ H
 clear H
 go_enter Try.func41,Try.ntmps41
 go_wp2
 repeat (go_quiet (fail);try go_wp2)
 go_loopg [5] k (fun kq v5 w'=>∃ (b5:Int),v5 = .int .i64 b5 ∧ Aside0 (numnahref07_Users.l0 kq l0 l1 b5 = some r) ∧ Aside0 (kq ≤ k) ∧ Drawn0 w w')
 case atStart=>exact ⟨(0),rf_,H',⟨Nat.le_refl _⟩,by repeat (first | exact Drawn0.refl _ | apply Drawn0.step)⟩
 case round =>
  clear H'
  obtain ⟨b5,rfl,HA,m5,⟨m1,rfl⟩⟩:=hrel
  cases gk with
  | zero=>exact absurd HA.out (by simp [numnahref07_Users.l0])
  | succ k1 =>
   have H:=HA.out
   clear HA
   simp only [numnahref07_Users.l0] at H
   by_cases c3:b5 < (l0.length:Int)
   ·rw [if_pos c3] at H
    have q4:=decide_eq_true c3
    clear c3
    replace H:=gd H
    obtain ⟨c4,H⟩:=H
    have s5:=decide_eq_true c4
    clear c4
    by_cases c5:(rd l0 b5) < 0
    ·rw [if_pos c5] at H
     have q5:=decide_eq_true c5
     clear c5
     obtain rfl:=Option.some.inj H
     have d8:0 ≤ (b5:Int):=oa_
     have d9:b5 < (l0.length:Int):=oa_
     obtain ⟨i2,j5,i3⟩:=Kd.at_int o6.out b5 d8 d9
     cases j5
     replace d8:=eq_true d8
     replace d9:=eq_true d9
     go_wp2
     repeat (go_quiet (fail);try go_wp2)
     go_ret
     exact ⟨by first | rfl | (simp;done) | (simp [*];done),by repeat (first | exact Drawn0.refl _ | apply Drawn0.step)⟩
    rw [if_neg c5] at H
    have q5:=decide_eq_false c5
    clear c5
    by_cases c6:(rd l0 b5) > 200
    ·rw [if_pos c6] at H
     have q6:=decide_eq_true c6
     clear c6
     obtain rfl:=Option.some.inj H
     have d8:0 ≤ (b5:Int):=oa_
     have d9:b5 < (l0.length:Int):=oa_
     obtain ⟨i2,j5,i3⟩:=Kd.at_int o6.out b5 d8 d9
     cases j5
     replace d8:=eq_true d8
     replace d9:=eq_true d9
     have h2:0 ≤ (b5:Int):=oa_
     have h3:b5 < (l0.length:Int):=oa_
     obtain ⟨j7,m6,l8⟩:=Kd.at_int o6.out b5 h2 h3
     obtain rfl:i2 = j7:=(by injection m6)
     replace h2:=eq_true h2
     replace h3:=eq_true h3
     go_wp2
     repeat (go_quiet (fail);try go_wp2)
     go_ret
     exact ⟨by first | rfl | (simp;done) | (simp [*];done),by repeat (first | exact Drawn0.refl _ | apply Drawn0.step)⟩
    rw [if_neg c6] at H
    have q6:=decide_eq_false c6
    clear c6
    have H':=A_ H
    clear H
    have d8:0 ≤ (b5:Int):=oa_
    have d9:b5 < (l0.length:Int):=oa_
    obtain ⟨i2,j5,i3⟩:=Kd.at_int o6.out b5 d8 d9
    cases j5
    replace d8:=eq_true d8
    replace d9:=eq_true d9
    have h2:0 ≤ (b5:Int):=oa_
    have h3:b5 < (l0.length:Int):=oa_
    obtain ⟨j7,m6,l8⟩:=Kd.at_int o6.out b5 h2 h3
    obtain rfl:i2 = j7:=(by injection m6)
    replace h2:=eq_true h2
    replace h3:=eq_true h3
    go_wp2
    repeat (go_quiet (fail);try go_wp2)
    go_roundg k1
    case measure=>have:=m5.out;omega
    case rel=>exact ⟨(wrap64 (b5 + 1)),rf_,H',⟨by have:=m5.out;omega⟩,by repeat (first | exact Drawn0.refl _ | apply Drawn0.step)⟩
   rw [if_neg c3] at H
   have q4:=decide_eq_false c3
   clear c3
   have H':=A_ H
   clear H
   go_wp2
   repeat (go_quiet (fail);try go_wp2)
   go_loopg [6] k1 (fun kq v6 w'=>∃ (b0:Int),v6 = .int .i64 b0 ∧ Aside0 (numnahref07_Users.l1 kq l0 l1 b0 = some r) ∧ Aside0 (kq ≤ k1) ∧ Drawn0 w w')
   case atStart=>exact ⟨(0),rf_,H',⟨Nat.le_refl _⟩,by repeat (first | exact Drawn0.refl _ | apply Drawn0.step)⟩
   case round =>
    clear H'
    obtain ⟨b0,rfl,HA,n1,⟨m2,rfl⟩⟩:=hrel
    cases gk with
    | zero=>exact absurd HA.out (by simp [numnahref07_Users.l1])
    | succ k2 =>
     have H:=HA.out
     clear HA
     simp only [numnahref07_Users.l1] at H
     by_cases c7:b0 < (l1.length:Int)
     case neg =>
      rw [if_neg c7] at H
      have q7:=decide_eq_false c7
      clear c7
      by_cases n2:(l0.length:Int) ≥ 1
      case neg =>
       rw [if_neg n2] at H
       have o7:=decide_eq_false n2
       have o8:decide (1 ≤ l0.length) = false:=decide_eq_false (by omega)
       clear n2
       obtain rfl:=Option.some.inj H
       go_wp2
       repeat (go_quiet (fail);try go_wp2)
       go_ret
       exact ⟨by first | rfl | (simp;done) | (simp [*];done),by repeat (first | exact Drawn0.refl _ | apply Drawn0.step)⟩
      rw [if_pos n2] at H
      have o7:=decide_eq_true n2
      have o8:decide (1 ≤ l0.length) = true:=decide_eq_true (by omega)
      clear n2
      by_cases n3:(l0.length:Int) ≤ 5
      case neg =>
       rw [if_neg n3] at H
       have o9:=decide_eq_false n3
       have p0:decide (l0.length ≤ 5) = false:=decide_eq_false (by omega)
       clear n3
       obtain rfl:=Option.some.inj H
       go_wp2
       repeat (go_quiet (fail);try go_wp2)
       go_ret
       exact ⟨by first | rfl | (simp;done) | (simp [*];done),by repeat (first | exact Drawn0.refl _ | apply Drawn0.step)⟩
      rw [if_pos n3] at H
      have o9:=decide_eq_true n3
      have p0:decide (l0.length ≤ 5) = true:=decide_eq_true (by omega)
      clear n3
      by_cases n4:(l1.length:Int) ≥ 1
      ·rw [if_pos n4] at H
       have p1:=decide_eq_true n4
       have p2:decide (1 ≤ l1.length) = true:=decide_eq_true (by omega)
       clear n4
       obtain rfl:=Option.some.inj H
       go_wp2
       repeat (go_quiet (fail);try go_wp2)
       go_ret
       exact ⟨by first | rfl | (simp;done) | (simp [*];done),by repeat (first | exact Drawn0.refl _ | apply Drawn0.step)⟩
      rw [if_neg n4] at H
      have p1:=decide_eq_false n4
      have p2:decide (1 ≤ l1.length) = false:=decide_eq_false (by omega)
      clear n4
      obtain rfl:=Option.some.inj H
      go_wp2
      repeat (go_quiet (fail);try go_wp2)
      go_ret
      exact ⟨by first | rfl | (simp;done) | (simp [*];done),by repeat (first | exact Drawn0.refl _ | apply Drawn0.step)⟩
     rw [if_pos c7] at H
     have q7:=decide_eq_true c7
     clear c7
     replace H:=gd H
     obtain ⟨c8,H⟩:=H
     have s6:=decide_eq_true c8
     clear c8
     have H':=A_ H
     clear H
     have m7:0 ≤ (b0:Int):=oa_
     have m8:b0 < (l1.length:Int):=oa_
     obtain ⟨e0,q8,q9,r0,q1,q2,i4,i5⟩:=at_T45 m4.out b0 m7 m8
     cases r0
     have b2:=A_ i5
     have q3:=A_ i4
     clear i5 i4
     replace m7:=eq_true m7
     replace m8:=eq_true m8
     go_wp2
     repeat (go_quiet (fail);try go_wp2)
     go_loopg [8] k2 (fun kq v8 w'=>∃ (b1:Int),v8 = .int .i64 b1 ∧ Aside0 (numnahref07_Users.l2 kq l0 l1 b0 ((rd_T45 l1 b0).f1) b1 = some r) ∧ Aside0 (kq ≤ k2) ∧ Drawn0 w w')
     case atStart=>exact ⟨(0),rf_,H',⟨Nat.le_refl _⟩,by repeat (first | exact Drawn0.refl _ | apply Drawn0.step)⟩
     case round =>
      clear H'
      obtain ⟨b1,rfl,HA,n5,⟨m3,rfl⟩⟩:=hrel
      cases gk with
      | zero=>exact absurd HA.out (by simp [numnahref07_Users.l2])
      | succ k3 =>
       have H:=HA.out
       clear HA
       simp only [numnahref07_Users.l2] at H
       by_cases c9:b1 < (((rd_T45 l1 b0).f1).length:Int)
       case neg =>
        rw [if_neg c9] at H
        have r1:=decide_eq_false c9
        clear c9
        replace H:=gd H
        obtain ⟨r6,H⟩:=H
        have r7:=decide_eq_true r6
        clear r6
        replace H:=gd H
        obtain ⟨r8,H⟩:=H
        have r9:=decide_eq_true r8
        clear r8
        by_cases n6:((rd_T45 l1 b0).f0) < 1
        ·rw [if_pos n6] at H
         have p3:=decide_eq_true n6
         clear n6
         obtain rfl:=Option.some.inj H
         have d2:0 ≤ (b0:Int):=oa_
         have d3:b0 < (l1.length:Int):=oa_
         obtain ⟨e1,h4,h5,h6,e6,d1,b3,b4⟩:=at_T45 m4.out b0 d2 d3
         obtain rfl:e0 = e1:=(by injection h6)
         have e7:=A_ b4
         have e8:=A_ b3
         clear b4 b3
         replace d2:=eq_true d2
         replace d3:=eq_true d3
         go_wp2
         repeat (go_quiet (fail);try go_wp2)
         go_ret
         exact ⟨by first | rfl | (simp;done) | (simp [*];done),by repeat (first | exact Drawn0.refl _ | apply Drawn0.step)⟩
        rw [if_neg n6] at H
        have p3:=decide_eq_false n6
        clear n6
        by_cases n7:((rd_T45 l1 b0).f0) > 4
        ·rw [if_pos n7] at H
         have p4:=decide_eq_true n7
         clear n7
         obtain rfl:=Option.some.inj H
         have d2:0 ≤ (b0:Int):=oa_
         have d3:b0 < (l1.length:Int):=oa_
         obtain ⟨e1,h4,h5,h6,e6,d1,b3,b4⟩:=at_T45 m4.out b0 d2 d3
         obtain rfl:e0 = e1:=(by injection h6)
         have e7:=A_ b4
         have e8:=A_ b3
         clear b4 b3
         replace d2:=eq_true d2
         replace d3:=eq_true d3
         have e2:0 ≤ (b0:Int):=oa_
         have e3:b0 < (l1.length:Int):=oa_
         obtain ⟨h1,j8,j9,l5,i6,d6,b6,b7⟩:=at_T45 m4.out b0 e2 e3
         obtain rfl:e0 = h1:=(by injection l5)
         have i7:=A_ b7
         have i8:=A_ b6
         clear b7 b6
         replace e2:=eq_true e2
         replace e3:=eq_true e3
         have ea_:=Option.some.inj (d1.symm.trans d6)
         injection ea_ with ea_ en_ ec_
         subst ea_
         subst ec_
         clear en_
         go_wp2
         repeat (go_quiet (fail);try go_wp2)
         go_ret
         exact ⟨by first | rfl | (simp;done) | (simp [*];done),by repeat (first | exact Drawn0.refl _ | apply Drawn0.step)⟩
        rw [if_neg n7] at H
        have p4:=decide_eq_false n7
        clear n7
        by_cases n8:(((rd_T45 l1 b0).f1).length:Int) < 1
        ·rw [if_pos n8] at H
         have p5:=decide_eq_true n8
         have p6:decide (((rd_T45 l1 b0).f1).length < 1) = true:=decide_eq_true (by omega)
         clear n8
         obtain rfl:=Option.some.inj H
         have d2:0 ≤ (b0:Int):=oa_
         have d3:b0 < (l1.length:Int):=oa_
         obtain ⟨e1,h4,h5,h6,e6,d1,b3,b4⟩:=at_T45 m4.out b0 d2 d3
         obtain rfl:e0 = e1:=(by injection h6)
         have e7:=A_ b4
         have e8:=A_ b3
         clear b4 b3
         replace d2:=eq_true d2
         replace d3:=eq_true d3
         have e2:0 ≤ (b0:Int):=oa_
         have e3:b0 < (l1.length:Int):=oa_
         obtain ⟨h1,j8,j9,l5,i6,d6,b6,b7⟩:=at_T45 m4.out b0 e2 e3
         obtain rfl:e0 = h1:=(by injection l5)
         have i7:=A_ b7
         have i8:=A_ b6
         clear b7 b6
         replace e2:=eq_true e2
         replace e3:=eq_true e3
         have ea_:=Option.some.inj (d1.symm.trans d6)
         injection ea_ with ea_ en_ ec_
         subst ea_
         subst ec_
         clear en_
         go_wp2
         repeat (go_quiet (fail);try go_wp2)
         go_ret
         exact ⟨by first | rfl | (simp;done) | (simp [*];done),by repeat (first | exact Drawn0.refl _ | apply Drawn0.step)⟩
        rw [if_neg n8] at H
        have p5:=decide_eq_false n8
        have p6:decide (((rd_T45 l1 b0).f1).length < 1) = false:=decide_eq_false (by omega)
        clear n8
        have H':=A_ H
        clear H
        have d2:0 ≤ (b0:Int):=oa_
        have d3:b0 < (l1.length:Int):=oa_
        obtain ⟨e1,h4,h5,h6,e6,d1,b3,b4⟩:=at_T45 m4.out b0 d2 d3
        obtain rfl:e0 = e1:=(by injection h6)
        have e7:=A_ b4
        have e8:=A_ b3
        clear b4 b3
        replace d2:=eq_true d2
        replace d3:=eq_true d3
        have e2:0 ≤ (b0:Int):=oa_
        have e3:b0 < (l1.length:Int):=oa_
        obtain ⟨h1,j8,j9,l5,i6,d6,b6,b7⟩:=at_T45 m4.out b0 e2 e3
        obtain rfl:e0 = h1:=(by injection l5)
        have i7:=A_ b7
        have i8:=A_ b6
        clear b7 b6
        replace e2:=eq_true e2
        replace e3:=eq_true e3
        have ea_:=Option.some.inj (d1.symm.trans d6)
        injection ea_ with ea_ en_ ec_
        subst ea_
        subst ec_
        clear en_
        go_wp2
        repeat (go_quiet (fail);try go_wp2)
        go_roundg k3
        case measure=>have:=m5.out;have:=n1.out;have:=n5.out;omega
        case rel=>exact ⟨(wrap64 (b0 + 1)),rf_,H',⟨by have:=m5.out;have:=n1.out;have:=n5.out;omega⟩,by repeat (first | exact Drawn0.refl _ | apply Drawn0.step)⟩
       rw [if_pos c9] at H
       have r1:=decide_eq_true c9
       clear c9
       replace H:=gd H
       obtain ⟨c10,H⟩:=H
       have s0:=decide_eq_true c10
       clear c10
       by_cases n9:(rd ((rd_T45 l1 b0).f1) b1) < 0
       ·rw [if_pos n9] at H
        have p7:=decide_eq_true n9
        clear n9
        obtain rfl:=Option.some.inj H
        have b8:0 ≤ (b1:Int):=oa_
        have b9:b1 < (((rd_T45 l1 b0).f1).length:Int):=oa_
        obtain ⟨d0,e9,d7⟩:=Kd.at_int b2.out b1 b8 b9
        cases e9
        replace b8:=eq_true b8
        replace b9:=eq_true b9
        go_wp2
        repeat (go_quiet (fail);try go_wp2)
        go_ret
        exact ⟨by first | rfl | (simp;done) | (simp [*];done),by repeat (first | exact Drawn0.refl _ | apply Drawn0.step)⟩
       rw [if_neg n9] at H
       have p7:=decide_eq_false n9
       clear n9
       by_cases o0:(rd ((rd_T45 l1 b0).f1) b1) ≥ (l0.length:Int)
       ·rw [if_pos o0] at H
        have p8:=decide_eq_true o0
        clear o0
        obtain rfl:=Option.some.inj H
        have b8:0 ≤ (b1:Int):=oa_
        have b9:b1 < (((rd_T45 l1 b0).f1).length:Int):=oa_
        obtain ⟨d0,e9,d7⟩:=Kd.at_int b2.out b1 b8 b9
        cases e9
        replace b8:=eq_true b8
        replace b9:=eq_true b9
        have d4:0 ≤ (b1:Int):=oa_
        have d5:b1 < (((rd_T45 l1 b0).f1).length:Int):=oa_
        obtain ⟨e4,h7,h0⟩:=Kd.at_int b2.out b1 d4 d5
        obtain rfl:d0 = e4:=(by injection h7)
        replace d4:=eq_true d4
        replace d5:=eq_true d5
        go_wp2
        repeat (go_quiet (fail);try go_wp2)
        go_ret
        exact ⟨by first | rfl | (simp;done) | (simp [*];done),by repeat (first | exact Drawn0.refl _ | apply Drawn0.step)⟩
       rw [if_neg o0] at H
       have p8:=decide_eq_false o0
       clear o0
       by_cases o1:b1 > 0
       case neg =>
        rw [if_neg o1] at H
        have p9:=decide_eq_false o1
        clear o1
        have H':=A_ H
        clear H
        have b8:0 ≤ (b1:Int):=oa_
        have b9:b1 < (((rd_T45 l1 b0).f1).length:Int):=oa_
        obtain ⟨d0,e9,d7⟩:=Kd.at_int b2.out b1 b8 b9
        cases e9
        replace b8:=eq_true b8
        replace b9:=eq_true b9
        have d4:0 ≤ (b1:Int):=oa_
        have d5:b1 < (((rd_T45 l1 b0).f1).length:Int):=oa_
        obtain ⟨e4,h7,h0⟩:=Kd.at_int b2.out b1 d4 d5
        obtain rfl:d0 = e4:=(by injection h7)
        replace d4:=eq_true d4
        replace d5:=eq_true d5
        go_wp2
        repeat (go_quiet (fail);try go_wp2)
        go_roundg k3
        case measure=>have:=m5.out;have:=n1.out;have:=n5.out;omega
        case rel=>exact ⟨(wrap64 (b1 + 1)),rf_,H',⟨by have:=m5.out;have:=n1.out;have:=n5.out;omega⟩,by repeat (first | exact Drawn0.refl _ | apply Drawn0.step)⟩
       rw [if_pos o1] at H
       have p9:=decide_eq_true o1
       clear o1
       obtain ⟨e5,i9⟩:∃ j_:Int,(wrap64 (b1 - 1)) = j_:=⟨_,rfl⟩
       replace H:(if 0 ≤ (e5) then (if (e5) < (((rd_T45 l1 b0).f1).length:Int) then (if (rd ((rd_T45 l1 b0).f1) (e5)) ≥ (rd ((rd_T45 l1 b0).f1) b1) then (some false) else (numnahref07_Users.l2 k3 l0 l1 b0 ((rd_T45 l1 b0).f1) (wrap64 (b1 + 1)))) else (none)) else (none)) = some r:=by first | (rw [i9] at H;exact H) | (simp only [i9] at H ⊢;exact H)
       have hji14w:(IntKind.i64.wrap (b1 - 1)) = e5:=(i64_w _).trans i9
       replace H:=gd H
       obtain ⟨s1,H⟩:=H
       have s2:=decide_eq_true s1
       clear s1
       replace H:=gd H
       obtain ⟨s3,H⟩:=H
       have s4:=decide_eq_true s3
       clear s3
       by_cases o2:(rd ((rd_T45 l1 b0).f1) (e5)) ≥ (rd ((rd_T45 l1 b0).f1) b1)
       ·rw [if_pos o2] at H
        have q0:=decide_eq_true o2
        clear o2
        obtain rfl:=Option.some.inj H
        have b8:0 ≤ (b1:Int):=oa_
        have b9:b1 < (((rd_T45 l1 b0).f1).length:Int):=oa_
        obtain ⟨d0,e9,d7⟩:=Kd.at_int b2.out b1 b8 b9
        cases e9
        replace b8:=eq_true b8
        replace b9:=eq_true b9
        have d4:0 ≤ (b1:Int):=oa_
        have d5:b1 < (((rd_T45 l1 b0).f1).length:Int):=oa_
        obtain ⟨e4,h7,h0⟩:=Kd.at_int b2.out b1 d4 d5
        obtain rfl:d0 = e4:=(by injection h7)
        replace d4:=eq_true d4
        replace d5:=eq_true d5
        have h8:0 ≤ ((e5):Int):=oa_
        have h9:(e5) < (((rd_T45 l1 b0).f1).length:Int):=oa_
        obtain ⟨l6,m9,l9⟩:=Kd.at_int b2.out (e5) h8 h9
        obtain rfl:d0 = l6:=(by injection m9)
        replace h8:=eq_true h8
        replace h9:=eq_true h9
        have i0:0 ≤ (b1:Int):=oa_
        have i1:b1 < (((rd_T45 l1 b0).f1).length:Int):=oa_
        obtain ⟨l7,n0,m0⟩:=Kd.at_int b2.out b1 i0 i1
        obtain rfl:d0 = l7:=(by injection n0)
        replace i0:=eq_true i0
        replace i1:=eq_true i1
        go_wp2
        repeat (go_quiet (fail);try go_wp2)
        go_ret
        exact ⟨by first | rfl | (simp;done) | (simp only [← i9] <;> (first | rfl | simp)) | (simp [*];done),by repeat (first | exact Drawn0.refl _ | apply Drawn0.step)⟩
       rw [if_neg o2] at H
       have q0:=decide_eq_false o2
       clear o2
       have H':=A_ H
       clear H
       have b8:0 ≤ (b1:Int):=oa_
       have b9:b1 < (((rd_T45 l1 b0).f1).length:Int):=oa_
       obtain ⟨d0,e9,d7⟩:=Kd.at_int b2.out b1 b8 b9
       cases e9
       replace b8:=eq_true b8
       replace b9:=eq_true b9
       have d4:0 ≤ (b1:Int):=oa_
       have d5:b1 < (((rd_T45 l1 b0).f1).length:Int):=oa_
       obtain ⟨e4,h7,h0⟩:=Kd.at_int b2.out b1 d4 d5
       obtain rfl:d0 = e4:=(by injection h7)
       replace d4:=eq_true d4
       replace d5:=eq_true d5
       have h8:0 ≤ ((e5):Int):=oa_
       have h9:(e5) < (((rd_T45 l1 b0).f1).length:Int):=oa_
       obtain ⟨l6,m9,l9⟩:=Kd.at_int b2.out (e5) h8 h9
       obtain rfl:d0 = l6:=(by injection m9)
       replace h8:=eq_true h8
       replace h9:=eq_true h9
       have i0:0 ≤ (b1:Int):=oa_
       have i1:b1 < (((rd_T45 l1 b0).f1).length:Int):=oa_
       obtain ⟨l7,n0,m0⟩:=Kd.at_int b2.out b1 i0 i1
       obtain rfl:d0 = l7:=(by injection n0)
       replace i0:=eq_true i0
       replace i1:=eq_true i1
       go_wp2
       repeat (go_quiet (fail);try go_wp2)
       go_roundg k3
       case measure=>have:=m5.out;have:=n1.out;have:=n5.out;omega
       case rel=>exact ⟨(wrap64 (b1 + 1)),rf_,H',⟨by have:=m5.out;have:=n1.out;have:=n5.out;omega⟩,by repeat (first | exact Drawn0.refl _ | apply Drawn0.step)⟩
end Go.Proofs.Ytjohcjfmlhihbaa.G
namespace Go.Proofs.Ytjohcjfmlhihbaa.G
open Go.RowKit Go.Proofs.YtjohcjfmlhihbaaW.PrintWords Go.Proofs.YtjohcjfmlhihbaaW.PrintLast Go.Proofs.YtjohcjfmlhihbaaW.PrintMore
set_option maxHeartbeats 8000000
set_option maxRecDepth 100000
attribute [local go_sem] cond_true cond_false fld23_0 fld23_1 fld45_0 fld45_1 fld109_0 fld109_1 fld94_0 fld94_1 max2_int min2_int max_two min_two max_three min_three max_four min_four   -- for this text's walks alone
def numnahref07_Has.l0:Nat → Int → Int → Int → List Int → Option (Bool)
 | 0,_,_,_,_=>none
 | k + 1,x1,x5,x832000,b6=>if x5 < (b6.length:Int) then (if 0 ≤ x5 then (if (rd b6 x5) = x1 then (some true) else (numnahref07_Has.l0 k x1 (wrap64 (x5 + 1)) x832000 b6)) else (none)) else (some false)
def numnahref07_Has.f (k:Nat) (b5:Int) (b0:List Int) (a1:Int):Option (Bool):=numnahref07_Has.l0 k a1 0 b5 b0
theorem numnahref07_Has.mono_l:∀ k,(∀ y0 y1 y2 y3,LeO (numnahref07_Has.l0 k y0 y1 y2 y3) (numnahref07_Has.l0 (k + 1) y0 y1 y2 y3))
 | 0=>fun _ _ _ _ r h=>by simp [numnahref07_Has.l0] at h
 | k + 1=>by
  have d4:=numnahref07_Has.mono_l k
  intro y0 y1 y2 y3
  unfold numnahref07_Has.l0
  repeat' first
  | (with_reducible exact d4 _ _ _ _)
  | (with_reducible exact LeO.refl _)
  | (with_reducible exact LeO.none _)
  | (with_reducible refine LeO.ite ?_ ?_)
  | (with_reducible refine LeO.bind ?_ (fun _=>?_))
  | exact d4 _ _ _ _
  | exact LeO.none _
  | refine LeO.ite ?_ ?_
  | refine LeO.bind ?_ (fun _=>?_)
theorem numnahref07_Has.mono:∀ a0 a1 a2 k,LeO (numnahref07_Has.f k a0 a1 a2) (numnahref07_Has.f (k + 1) a0 a1 a2):=by
 intro a0 a1 a2 k
 have d4:=numnahref07_Has.mono_l k
 unfold numnahref07_Has.f
 repeat' first
   | (with_reducible exact d4 _ _ _ _)
   | (with_reducible exact LeO.refl _)
   | (with_reducible exact LeO.none _)
   | (with_reducible refine LeO.ite ?_ ?_)
   | (with_reducible refine LeO.bind ?_ (fun _=>?_))
   | exact d4 _ _ _ _
   | exact LeO.none _
   | refine LeO.ite ?_ ?_
   | refine LeO.bind ?_ (fun _=>?_)
theorem numnahref07_Has.calls (k:Nat) (b5:Int) (b7:Option Addr) (b8:Nat) (b0:List Int) (a1:Int) (r:Bool) (w:World) (d0:Kd.C (Kd.int .i64) w b7 b0.length b0) (d1:b0.length ≤ b8) (h:numnahref07_Has.f k b5 b0 a1 = some r) :
  Calls Try.prog 77 #[.agg #[.int .i64 b5,.slice b7 b0.length b8],.int .i64 a1] w fun e w'=>e = .returned (.bool r) ∧ Below w.heap.size w w':=by
 have h8:=Try.underlying45
 have d2:=Aside0.mk d0
 have h1:=Aside0.mk d1
 clear d0 d1
 have HB:=Aside0.mk (Below.refl w.heap.size w)
 have H:(numnahref07_Has.l0 k a1 0 b5 b0) = some r:=h
 clear h
 have H':=Aside0.mk H
 clear H
 go_enter Try.func77,Try.ntmps77
 go_wp2_with (first | ((with_reducible refine gate_dst (N:=2) rfl ?_);refine box_event ?hg (N:=2) ?hd (cs:=#[.int .i64 b5,.slice b7 b0.length b8]) (t:=45) ?hr ?_;(case hd=>rfl);(case hg=>rfl);(case hr=>first | (go_simp;done) | (go_simp;rfl));intro b4 hg w3 hbox hb;have h2:=Aside0.mk (below_step (by repeat (first | (with_reducible first | exact HB.out | apply below_alloc | apply pw_below_drewN | apply below_drew1) | exact HB.out)) hb);have h3:=Aside0.mk (hbox);have h4:=Aside0.mk ((by rw [hg];exact (below_size (by repeat (first | (with_reducible first | exact HB.out | apply below_alloc | apply pw_below_drewN | apply below_drew1) | exact HB.out))):w.heap.size ≤ b4));have h5:=Aside0.mk ((by rw [hg];exact (below_size (by repeat (first | (with_reducible first | exact HB.out | apply below_alloc | apply pw_below_drewN | apply below_drew1) | exact HB.out))):w.heap.size ≤ b4));clear HB;have HB:=h2;have b1:=h3;have h6:=h4;have c1:=h5;clear h2 h3 h4 h5;clear hb hbox hg))
 go_loopg [5] k (fun kq v5 w'=>∃ (b2:Int),v5 = .int .i64 b2 ∧ Aside0 (numnahref07_Has.l0 kq a1 b2 b5 b0 = some r) ∧ Aside0 (kq ≤ k) ∧ Aside0 (w'.heap[b4]? = some (.cells #[.int .i64 b5,(.slice b7 b0.length b8)] 45 (0,0))) ∧ Aside0 (Below w.heap.size w w'))
 case atStart=>exact ⟨(0),(by first | rfl | (simp;done) | (simp [*];done)),H',⟨Nat.le_refl _⟩,⟨by (with_reducible repeat (first | refine blk_drewN ?_ _ | refine blk_drew ?_ | refine blk_alloc ?_ _));exact b1.out⟩,⟨by repeat (first | (with_reducible first | exact HB.out | apply below_alloc | apply pw_below_drewN | apply below_drew1 | refine below_set ?_ c1.out) | exact HB.out)⟩⟩
 case round =>
  clear H'
  try clear p2
  obtain ⟨b2,rfl,HA,h7,b1,HB⟩:=hrel
  cases gk with
  | zero=>exact absurd HA.out (by simp [numnahref07_Has.l0])
  | succ k1 =>
   have H:=HA.out
   clear HA
   simp only [numnahref07_Has.l0] at H
   by_cases c4:b2 < (b0.length:Int)
   case neg =>
    rw [if_neg c4] at H
    have d6:decide (b2 < (b0.length:Int)) = false:=decide_eq_false c4
    clear c4
    obtain rfl:=Option.some.inj H
    have d7:wr.cell? ⟨b4,0,none⟩ = some (.int .i64 b5):=(blk_cell b1.out 0).trans rfl
    have d8:wr.cell? ⟨b4,1,none⟩ = some (.slice b7 b0.length b8):=(blk_cell b1.out 1).trans rfl
    have d9:=blk_frozen b1.out 0
    have e0:=blk_frozen b1.out 1
    go_wp2
    go_ret
    exact ⟨by first | rfl | (simp [errW_none,errW_some] <;> rfl) | (simp [*,errW_none,errW_some] <;> rfl),by repeat (first | (with_reducible first | exact HB.out | apply below_alloc | apply pw_below_drewN | apply below_drew1 | refine below_set ?_ c1.out) | exact HB.out)⟩
   rw [if_pos c4] at H
   have d6:decide (b2 < (b0.length:Int)) = true:=decide_eq_true c4
   clear c4
   by_cases c5:0 ≤ b2
   case neg =>
    rw [if_neg c5] at H
    exact absurd H (by simp)
   rw [if_pos c5] at H
   have h9:decide (0 ≤ b2) = true:=decide_eq_true c5
   clear c5
   by_cases c6:(rd b0 b2) = a1
   ·rw [if_pos c6] at H
    have e1:((rd b0 b2) == a1) = true:=beq_iff_eq.mpr c6
    have e2:((rd b0 b2) != a1) = false:=bne_eq_false_iff_eq.mpr c6
    clear c6
    obtain rfl:=Option.some.inj H
    have e3:wr.cell? ⟨b4,0,none⟩ = some (.int .i64 b5):=(blk_cell b1.out 0).trans rfl
    have e4:wr.cell? ⟨b4,1,none⟩ = some (.slice b7 b0.length b8):=(blk_cell b1.out 1).trans rfl
    have e5:=blk_frozen b1.out 0
    have e6:=blk_frozen b1.out 1
    have b9:0 ≤ (b2:Int):=of_decide_eq_true (by first | (with_reducible assumption) | assumption)
    have c0:b2 < (b0.length:Int):=of_decide_eq_true (by first | (with_reducible assumption) | assumption)
    obtain ⟨d5,d3,b3⟩:=Kd.at_int d2.out b2 b9 c0
    cases d3
    replace b3:=(HB.out.cell (World.block_lt_of_cell? w _ b3)).trans b3
    replace b9:=eq_true b9
    replace c0:=eq_true c0
    go_wp2
    go_ret
    exact ⟨by first | rfl | (simp [errW_none,errW_some] <;> rfl) | (simp [*,errW_none,errW_some] <;> rfl),by repeat (first | (with_reducible first | exact HB.out | apply below_alloc | apply pw_below_drewN | apply below_drew1 | refine below_set ?_ c1.out) | exact HB.out)⟩
   rw [if_neg c6] at H
   have e1:((rd b0 b2) == a1) = false:=beq_eq_false_iff_ne.mpr c6
   have e2:((rd b0 b2) != a1) = true:=bne_iff_ne.mpr c6
   have H':=Aside0.mk H
   clear H
   have e7:wr.cell? ⟨b4,0,none⟩ = some (.int .i64 b5):=(blk_cell b1.out 0).trans rfl
   have e8:wr.cell? ⟨b4,1,none⟩ = some (.slice b7 b0.length b8):=(blk_cell b1.out 1).trans rfl
   have e9:=blk_frozen b1.out 0
   have h0:=blk_frozen b1.out 1
   have b9:0 ≤ (b2:Int):=of_decide_eq_true (by first | (with_reducible assumption) | assumption)
   have c0:b2 < (b0.length:Int):=of_decide_eq_true (by first | (with_reducible assumption) | assumption)
   obtain ⟨d5,d3,b3⟩:=Kd.at_int d2.out b2 b9 c0
   cases d3
   replace b3:=(HB.out.cell (World.block_lt_of_cell? w _ b3)).trans b3
   replace b9:=eq_true b9
   replace c0:=eq_true c0
   go_wp2
   go_roundg k1
   case measure=>have:=h7.out;omega
   case rel=>exact ⟨(wrap64 (b2 + 1)),(by first | rfl | (simp;done) | (simp [*];done)),H',⟨by have:=h7.out;omega⟩,⟨by (with_reducible repeat (first | refine blk_drewN ?_ _ | refine blk_drew ?_ | refine blk_alloc ?_ _));exact b1.out⟩,⟨by repeat (first | (with_reducible first | exact HB.out | apply below_alloc | apply pw_below_drewN | apply below_drew1 | refine below_set ?_ c1.out) | exact HB.out)⟩⟩
end Go.Proofs.Ytjohcjfmlhihbaa.G
set_option linter.unusedSectionVars false
namespace Go.Proofs.Ytjohcjfmlhihbaa.P
open Go Go.RowKit Go.Proofs.Ytjohcjfmlhihbaa.G
open Go.Proofs.YtjohcjfmlhihbaaW.PrintWords Go.Proofs.YtjohcjfmlhihbaaW.PrintMore
theorem rdT45 {a:List S45} {i:Nat} (h:i < a.length):rd_T45 a (i:Int) = a[i]:=by unfold rd_T45;simp [h]
theorem wrap_pred {i:Nat} (h0:0 < i) (h:i < 9223372036854775807):wrap64 ((i:Int) - 1) = ((i - 1:Nat):Int):=by unfold wrap64;omega
def allF (P:Nat → Bool):Nat → Nat → Bool
 | 0,_=>true
 | d + 1,i=>P i && allF P d (i + 1)
theorem allF_iff (P:Nat → Bool):∀ d i,allF P d i = true ↔ ∀ j,i ≤ j → j < i + d → P j = true
 | 0,i=>by
  constructor
  ·intro _ j h1 h2;omega
  ·intro _;rfl
 | d + 1,i=>by
  rw [allF,Bool.and_eq_true,allF_iff P d (i + 1)]
  constructor
  ·intro h j h1 h2
   by_cases e:j = i
   ·rw [e];exact h.1
   ·exact h.2 j (by omega) (by omega)
  ·intro h
   exact ⟨h i (by omega) (by omega),fun j h1 h2=>h j (by omega) (by omega)⟩
def okAt (n:Nat) (l:List Int) (i:Nat):Bool:=decide (0 ≤ rd l (i:Int)) && decide (rd l (i:Int) < (n:Int)) && (decide (i = 0) || decide (rd l ((i - 1:Nat):Int) < rd l (i:Int)))
def okU (n:Nat) (a:S45):Bool:=decide (1 ≤ a.f0) && decide (a.f0 ≤ 4) && decide (1 ≤ a.f1.length) && allF (okAt n a.f1) a.f1.length 0
theorem okAt_len {n:Nat} {l:List Int} (h:allF (okAt n l) l.length 0 = true):l.length ≤ n:=by
 rw [allF_iff] at h
 have h1:∀ i:Nat,i < l.length → (i:Int) ≤ rd l (i:Int):=by
  intro i
  induction i with
  | zero =>
   intro hi
   have:=h 0 (by omega) (by omega)
   simp only [okAt,Bool.and_eq_true,decide_eq_true_eq] at this
   exact this.1.1
  | succ i ih =>
   intro hi
   have h2:=ih (by omega)
   have:=h (i + 1) (by omega) (by omega)
   simp only [okAt,Bool.and_eq_true,Bool.or_eq_true,decide_eq_true_eq,Nat.add_sub_cancel] at this
   rcases this.2 with h3 | h3
   ·omega
   ·push_cast at h3 ⊢;omega
 by_cases e:l.length = 0
 ·omega
 ·have h2:=h1 (l.length - 1) (by omega)
  have:=h (l.length - 1) (by omega) (by omega)
  simp only [okAt,Bool.and_eq_true,decide_eq_true_eq] at this
  omega
def okNet (p:List Int) (u:List S45):Bool:=decide (1 ≤ p.length) && decide (p.length ≤ 5) && decide (1 ≤ u.length) && decide (u.length ≤ 6) && p.all (fun x=>decide (0 ≤ x ∧ x ≤ 200)) && allF (fun i=>okU p.length (rd_T45 u (i:Int))) u.length 0
section
variable {p:List Int} {u:List S45} (hp:p.length ≤ 1000000) (hu:u.length ≤ 1000000)
include hp hu
theorem nn_l1 {l:List Int} (hl:l.length ≤ 1000000) {iu w:Int} {v:Bool} (hv:Ev (fun k=>shares_newNet.l0 k p u (u.length:Int) (wrap64 (iu + 1))) v):∀ d i,i + d = l.length → Ev (fun k=>shares_newNet.l1 k p u (u.length:Int) iu l (l.length:Int) (i:Int) w l) (allF (okAt p.length l) d i && v):=by
 intro d
 induction d with
 | zero =>
  intro i hi
  rw [allF,Bool.true_and]
  refine Ev.step (fun k=>?_) hv
  rw [shares_newNet.l1,if_neg (by omega)]
 | succ d ih =>
  intro i hi
  have hw:wrap64 ((p.length:Int) - 1) = (p.length:Int) - 1:=wrap_id (by omega) (by omega)
  have start:∀ k,shares_newNet.l1 (k + 1) p u (u.length:Int) iu l (l.length:Int) (i:Int) w l = if okAt p.length l i = true then shares_newNet.l1 k p u (u.length:Int) iu l (l.length:Int) ((i + 1:Nat):Int) w l else some false:=by
   intro k
   rw [shares_newNet.l1,if_pos (by omega),if_pos (by omega),if_pos (by omega),within_eq,hw,wrap_succ (by omega)]
   simp only [Option.bind_some,decide_eq_true_eq]
   unfold okAt
   by_cases h1:0 ≤ rd l (i:Int) ∧ rd l (i:Int) ≤ (p.length:Int) - 1
   ·rw [if_pos h1,decide_eq_true h1.1,decide_eq_true (by omega:rd l (i:Int) < (p.length:Int))]
    by_cases h2:i = 0
    ·rw [if_neg (by omega),decide_eq_true h2];simp
    ·rw [if_pos (by omega),decide_eq_false h2,wrap_pred (by omega) (by omega),if_pos (by omega),if_pos (by omega)]
     by_cases h3:rd l ((i - 1:Nat):Int) < rd l (i:Int)
     ·rw [if_neg (by omega),decide_eq_true h3];simp
     ·rw [if_pos (by omega),decide_eq_false h3];simp
   ·rw [if_neg h1,if_neg]
    simp only [Bool.and_eq_true,decide_eq_true_eq,not_and]
    intro h4
    omega
  refine Ev.step start ?_
  rw [allF]
  by_cases h:okAt p.length l i = true
  ·rw [h,Bool.true_and]
   exact Ev.congr (fun k=>if_pos rfl) (ih (i + 1) (by omega))
  ·have h':okAt p.length l i = false:=by simpa using h
   rw [h',Bool.false_and,Bool.false_and]
   exact Ev.congr (fun k=>if_neg (by decide)) (Ev.now _)
theorem nn_l0 (hul:∀ a ∈ u,a.f1.length ≤ 1000000):∀ d i,i + d = u.length → Ev (fun k=>shares_newNet.l0 k p u (u.length:Int) (i:Int)) (allF (fun i=>okU p.length (rd_T45 u (i:Int))) d i):=by
 intro d
 induction d with
 | zero =>
  intro i hi
  refine Ev.step (f:=fun _=>some true) (fun k=>?_) (Ev.now _)
  rw [shares_newNet.l0,if_neg (by omega)]
 | succ d ih =>
  intro i hi
  have hil:i < u.length:=by omega
  have hl:(rd_T45 u (i:Int)).f1.length ≤ 1000000:=by rw [rdT45 hil];exact hul _ (List.getElem_mem hil)
  have hn:=ih (i + 1) (by omega)
  rw [← wrap_succ (by omega)] at hn
  have h1:=nn_l1 hp hu hl (w:=(rd_T45 u (i:Int)).f0) hn (rd_T45 u (i:Int)).f1.length 0 (by omega)
  rw [allF]
  obtain ⟨a,ha⟩:∃ a,rd_T45 u (i:Int) = a:=⟨_,rfl⟩
  have start:∀ k,shares_newNet.l0 (k + 1) p u (u.length:Int) (i:Int) = if (1 ≤ a.f0 ∧ a.f0 ≤ 4) ∧ 1 ≤ a.f1.length ∧ a.f1.length ≤ p.length then shares_newNet.j2 k p u (u.length:Int) (i:Int) false a.f0 a.f1 else shares_newNet.j2 k p u (u.length:Int) (i:Int) true a.f0 a.f1:=by
   intro k
   rw [shares_newNet.l0,if_pos (by omega),if_pos (by omega),if_pos (by omega),within_eq,within_eq,ha]
   simp only [Option.bind_some,decide_eq_true_eq]
   by_cases h1:1 ≤ a.f0 ∧ a.f0 ≤ 4
   ·rw [if_pos h1]
    by_cases h2:1 ≤ a.f1.length ∧ a.f1.length ≤ p.length
    ·rw [if_pos ⟨h1,h2⟩,decide_eq_true (by omega)];rfl
    ·rw [if_neg (fun e=>h2 e.2),decide_eq_false (by omega)];rfl
   ·rw [if_neg h1,if_neg (fun e=>h1 e.1)]
  refine Ev.step start ?_
  rw [ha] at h1
  by_cases h:(1 ≤ a.f0 ∧ a.f0 ≤ 4) ∧ 1 ≤ a.f1.length ∧ a.f1.length ≤ p.length
  ·refine Ev.congr (fun k=>if_pos h) (Ev.step (f:=fun k=>shares_newNet.l1 k p u (u.length:Int) (i:Int) a.f1 (a.f1.length:Int) 0 a.f0 a.f1) (fun k=>?_) ?_)
   ·rw [shares_newNet.j2];rfl
   ·have e:okU p.length a = allF (okAt p.length a.f1) a.f1.length 0:=by
     unfold okU
     rw [decide_eq_true h.1.1,decide_eq_true h.1.2,decide_eq_true h.2.1];rfl
    show Ev _ (okU p.length (rd_T45 u (i:Int)) && _)
    rw [ha,e]
    exact h1
  ·have e:okU p.length a = false:=by
    rw [← Bool.not_eq_true]
    intro hk
    unfold okU at hk
    rw [Bool.and_eq_true] at hk
    have h4:=okAt_len hk.2
    simp only [Bool.and_eq_true,decide_eq_true_eq] at hk
    exact h ⟨hk.1.1,hk.1.2,h4⟩
   show Ev _ (okU p.length (rd_T45 u (i:Int)) && _)
   rw [ha,e,Bool.false_and]
   refine Ev.congr (fun k=>if_neg h) (Ev.step (f:=fun _=>some false) (fun k=>?_) (Ev.now _))
   rw [shares_newNet.j2];rfl
theorem ev_newNet (hf:H.fitL p) (hul:∀ a ∈ u,a.f1.length ≤ 1000000):Ev (fun k=>shares_newNet.f k p u) (okNet p u):=by
 unfold shares_newNet.f contains102.f
 simp only [within_eq,Option.bind_some,decide_eq_true_eq]
 by_cases h1:1 ≤ p.length ∧ p.length ≤ 5
 ·refine Ev.congr (fun k=>if_pos (by omega)) ?_
  by_cases h2:1 ≤ u.length ∧ u.length ≤ 6
  ·refine Ev.congr (fun k=>if_pos (by omega)) ?_
   rw [if_pos hf]
   simp only [Option.bind_some]
   have e:okNet p u = (p.all (fun x=>decide (0 ≤ x ∧ x ≤ 200)) && allF (fun i=>okU p.length (rd_T45 u (i:Int))) u.length 0):=by
    unfold okNet
    rw [decide_eq_true h1.1,decide_eq_true h1.2,decide_eq_true h2.1,decide_eq_true h2.2];rfl
   rw [e]
   by_cases h3:p.all (fun x=>decide (0 ≤ x ∧ x ≤ 200)) = true
   ·have h4:p.any (fun x=>!decide (0 ≤ x ∧ x ≤ 200)) = false:=by
     rw [← Bool.not_eq_true,List.any_eq_true]
     rintro ⟨x,hx,hb⟩
     rw [List.all_eq_true] at h3
     have:=h3 x hx
     rw [this] at hb
     cases hb
    rw [h3,h4,Bool.true_and]
    refine Ev.step (f:=fun k=>shares_newNet.l0 k p u (u.length:Int) 0) (fun k=>?_) (nn_l0 hp hu hul u.length 0 (by omega))
    rw [shares_newNet.j0];rfl
   ·have h3':p.all (fun x=>decide (0 ≤ x ∧ x ≤ 200)) = false:=by simpa only [Bool.not_eq_true] using h3
    have h4:p.any (fun x=>!decide (0 ≤ x ∧ x ≤ 200)) = true:=by
     rw [List.any_eq_true]
     apply Classical.byContradiction
     intro hno
     apply h3
     rw [List.all_eq_true]
     intro x hx
     apply Classical.byContradiction
     intro hb
     exact hno ⟨x,hx,by rw [Bool.not_eq_true] at hb;rw [hb];rfl⟩
    rw [h3',h4,Bool.false_and]
    refine Ev.step (f:=fun _=>some false) (fun k=>?_) (Ev.now _)
    rw [shares_newNet.j0];rfl
  ·have e:okNet p u = false:=by
    rw [← Bool.not_eq_true]
    intro hk
    simp only [okNet,Bool.and_eq_true,decide_eq_true_eq] at hk
    exact h2 ⟨hk.1.1.1.2,hk.1.1.2⟩
   rw [e]
   refine Ev.congr (fun k=>if_neg (by omega)) (Ev.step (f:=fun _=>some false) (fun k=>?_) (Ev.now _))
   rw [shares_newNet.j0];rfl
 ·have e:okNet p u = false:=by
   rw [← Bool.not_eq_true]
   intro hk
   simp only [okNet,Bool.and_eq_true,decide_eq_true_eq] at hk
   exact h1 ⟨hk.1.1.1.1.1,hk.1.1.1.1.2⟩
  rw [e]
  refine Ev.congr (fun k=>if_neg (by omega)) (Ev.step (f:=fun _=>some false) (fun k=>?_) (Ev.now _))
  rw [shares_newNet.j0];rfl
theorem us_l2 {l:List Int} (hl:l.length ≤ 1000000) {iu:Nat} (hiu:iu < u.length) {v:Bool} (hv:Ev (fun k=>numnahref07_Users.l1 k p u ((iu + 1:Nat):Int)) v):∀ d i,i + d = l.length → Ev (fun k=>numnahref07_Users.l2 k p u (iu:Int) l (i:Int)) (allF (okAt p.length l) d i && (decide (1 ≤ u[iu].f0) && decide (u[iu].f0 ≤ 4) && decide (1 ≤ l.length) && v)):=by
 intro d
 induction d with
 | zero =>
  intro i hi
  rw [allF,Bool.true_and]
  have start:∀ k,numnahref07_Users.l2 (k + 1) p u (iu:Int) l (i:Int) = if (1 ≤ u[iu].f0 ∧ u[iu].f0 ≤ 4) ∧ 1 ≤ l.length then numnahref07_Users.l1 k p u ((iu + 1:Nat):Int) else some false:=by
   intro k
   rw [numnahref07_Users.l2,if_neg (by omega),if_pos (by omega),if_pos (by omega),rdT45 hiu,wrap_succ (by omega)]
   by_cases h1:u[iu].f0 < 1
   ·rw [if_pos h1,if_neg (fun e=>by omega)]
   ·rw [if_neg h1]
    by_cases h2:u[iu].f0 > 4
    ·rw [if_pos h2,if_neg (fun e=>by omega)]
    ·rw [if_neg h2]
     by_cases h3:(l.length:Int) < 1
     ·rw [if_pos h3,if_neg (fun e=>by omega)]
     ·rw [if_neg h3,if_pos ⟨by omega,by omega⟩]
  refine Ev.step start ?_
  by_cases h:(1 ≤ u[iu].f0 ∧ u[iu].f0 ≤ 4) ∧ 1 ≤ l.length
  ·rw [decide_eq_true h.1.1,decide_eq_true h.1.2,decide_eq_true h.2]
   exact Ev.congr (fun k=>if_pos h) hv
  ·have e:(decide (1 ≤ u[iu].f0) && decide (u[iu].f0 ≤ 4) && decide (1 ≤ l.length) && v) = false:=by
    rw [← Bool.not_eq_true]
    intro hk
    simp only [Bool.and_eq_true,decide_eq_true_eq] at hk
    exact h hk.1
   rw [e]
   exact Ev.congr (fun k=>if_neg h) (Ev.now _)
 | succ d ih =>
  intro i hi
  have start:∀ k,numnahref07_Users.l2 (k + 1) p u (iu:Int) l (i:Int) = if okAt p.length l i = true then numnahref07_Users.l2 k p u (iu:Int) l ((i + 1:Nat):Int) else some false:=by
   intro k
   rw [numnahref07_Users.l2,if_pos (by omega),if_pos (by omega),wrap_succ (by omega)]
   unfold okAt
   by_cases h1:rd l (i:Int) < 0
   ·rw [if_pos h1,decide_eq_false (by omega:¬ 0 ≤ rd l (i:Int))];simp
   ·rw [if_neg h1,decide_eq_true (by omega:0 ≤ rd l (i:Int))]
    by_cases h4:rd l (i:Int) ≥ (p.length:Int)
    ·rw [if_pos h4,decide_eq_false (by omega:¬ rd l (i:Int) < (p.length:Int))];simp
    ·rw [if_neg h4,decide_eq_true (by omega:rd l (i:Int) < (p.length:Int))]
     by_cases h2:i = 0
     ·rw [if_neg (by omega),decide_eq_true h2];simp
     ·rw [if_pos (by omega),decide_eq_false h2,wrap_pred (by omega) (by omega),if_pos (by omega),if_pos (by omega)]
      by_cases h3:rd l ((i - 1:Nat):Int) < rd l (i:Int)
      ·rw [if_neg (by omega),decide_eq_true h3];simp
      ·rw [if_pos (by omega),decide_eq_false h3];simp
  refine Ev.step start ?_
  rw [allF]
  by_cases h:okAt p.length l i = true
  ·rw [h,Bool.true_and]
   exact Ev.congr (fun k=>if_pos rfl) (ih (i + 1) (by omega))
  ·have h':okAt p.length l i = false:=by simpa using h
   rw [h',Bool.false_and,Bool.false_and]
   exact Ev.congr (fun k=>if_neg (by decide)) (Ev.now _)
theorem us_l1 (hul:∀ a ∈ u,a.f1.length ≤ 1000000):∀ d i,i + d = u.length → Ev (fun k=>numnahref07_Users.l1 k p u (i:Int)) (allF (fun i=>okU p.length (rd_T45 u (i:Int))) d i && (decide (1 ≤ p.length) && decide (p.length ≤ 5) && decide (1 ≤ u.length) && decide (u.length ≤ 6))):=by
 intro d
 induction d with
 | zero =>
  intro i hi
  rw [allF,Bool.true_and]
  refine Ev.step (f:=fun _=>some (decide (1 ≤ p.length) && decide (p.length ≤ 5) && decide (1 ≤ u.length) && decide (u.length ≤ 6))) (fun k=>?_) (Ev.now _)
  rw [numnahref07_Users.l1,if_neg (by omega)]
  by_cases h1:1 ≤ p.length
  ·rw [if_pos (by omega),decide_eq_true h1]
   by_cases h2:p.length ≤ 5
   ·rw [if_pos (by omega),decide_eq_true h2]
    by_cases h3:1 ≤ u.length
    ·rw [if_pos (by omega),decide_eq_true h3]
     congr 1
     rw [Bool.eq_iff_iff,decide_eq_true_iff]
     simp only [Bool.and_self,Bool.true_and,decide_eq_true_eq]
     omega
    ·rw [if_neg (by omega),decide_eq_false h3];simp
   ·rw [if_neg (by omega),decide_eq_false h2];simp
  ·rw [if_neg (by omega),decide_eq_false h1];simp
 | succ d ih =>
  intro i hi
  have hil:i < u.length:=by omega
  have hl:u[i].f1.length ≤ 1000000:=hul _ (List.getElem_mem hil)
  have h2:=us_l2 hp hu hl hil (ih (i + 1) (by omega)) u[i].f1.length 0 (by omega)
  refine Ev.step (fun k=>?_) (f:=fun k=>numnahref07_Users.l2 k p u (i:Int) u[i].f1 ((0:Nat):Int)) ?_
  ·rw [numnahref07_Users.l1,if_pos (by omega),if_pos (by omega),rdT45 hil];rfl
  ·have e:(allF (fun i=>okU p.length (rd_T45 u (i:Int))) (d + 1) i && (decide (1 ≤ p.length) && decide (p.length ≤ 5) && decide (1 ≤ u.length) && decide (u.length ≤ 6))) = (allF (okAt p.length u[i].f1) u[i].f1.length 0 && (decide (1 ≤ u[i].f0) && decide (u[i].f0 ≤ 4) && decide (1 ≤ u[i].f1.length) && (allF (fun i=>okU p.length (rd_T45 u (i:Int))) d (i + 1) && (decide (1 ≤ p.length) && decide (p.length ≤ 5) && decide (1 ≤ u.length) && decide (u.length ≤ 6))))):=by
    rw [allF,rdT45 hil,okU]
    generalize allF (okAt p.length u[i].f1) u[i].f1.length 0 = b1
    generalize allF (fun i=>okU p.length (rd_T45 u (i:Int))) d (i + 1) = b2
    cases b1 <;> simp
    cases b2 <;> simp
   rw [e]
   exact h2
theorem us_l0 (hul:∀ a ∈ u,a.f1.length ≤ 1000000):∀ d i,i + d = p.length → Ev (fun k=>numnahref07_Users.l0 k p u (i:Int)) ((p.drop i).all (fun x=>decide (0 ≤ x ∧ x ≤ 200)) && (allF (fun i=>okU p.length (rd_T45 u (i:Int))) u.length 0 && (decide (1 ≤ p.length) && decide (p.length ≤ 5) && decide (1 ≤ u.length) && decide (u.length ≤ 6)))):=by
 intro d
 induction d with
 | zero =>
  intro i hi
  rw [List.drop_eq_nil_of_le (by omega),List.all_nil,Bool.true_and]
  refine Ev.step (fun k=>?_) (us_l1 hp hu hul u.length 0 (by omega))
  rw [numnahref07_Users.l0,if_neg (by omega)];rfl
 | succ d ih =>
  intro i hi
  have hil:i < p.length:=by omega
  rw [List.drop_eq_getElem_cons hil,List.all_cons]
  have start:∀ k,numnahref07_Users.l0 (k + 1) p u (i:Int) = if 0 ≤ p[i] ∧ p[i] ≤ 200 then numnahref07_Users.l0 k p u ((i + 1:Nat):Int) else some false:=by
   intro k
   rw [numnahref07_Users.l0,if_pos (by omega),if_pos (by omega),rd_get hil,wrap_succ (by omega)]
   by_cases h1:p[i] < 0
   ·rw [if_pos h1,if_neg (by omega)]
   ·rw [if_neg h1]
    by_cases h2:p[i] > 200
    ·rw [if_pos h2,if_neg (by omega)]
    ·rw [if_neg h2,if_pos (by omega)]
  refine Ev.step start ?_
  by_cases h:0 ≤ p[i] ∧ p[i] ≤ 200
  ·rw [decide_eq_true h,Bool.true_and]
   exact Ev.congr (fun k=>if_pos h) (ih (i + 1) (by omega))
  ·rw [decide_eq_false h,Bool.false_and,Bool.false_and]
   exact Ev.congr (fun k=>if_neg h) (Ev.now _)
theorem ev_users (hul:∀ a ∈ u,a.f1.length ≤ 1000000):Ev (fun k=>numnahref07_Users.f k p u) (okNet p u):=by
 have h:=us_l0 hp hu hul p.length 0 (by omega)
 rw [List.drop_zero] at h
 have e:okNet p u = (p.all (fun x=>decide (0 ≤ x ∧ x ≤ 200)) && (allF (fun i=>okU p.length (rd_T45 u (i:Int))) u.length 0 && (decide (1 ≤ p.length) && decide (p.length ≤ 5) && decide (1 ≤ u.length) && decide (u.length ≤ 6)))):=by
  unfold okNet
  generalize allF (fun i=>okU p.length (rd_T45 u (i:Int))) u.length 0 = b1
  generalize p.all (fun x=>decide (0 ≤ x ∧ x ≤ 200)) = b2
  cases b1 <;> cases b2 <;> simp
 rw [e]
 exact h
end
theorem indexH_l0 {l:List Int} (hl:l.length ≤ 1000000) (q:Int):∀ d i,i + d = l.length → ∃ r:Int,(decide (r ≥ 0) = decide (q ∈ l.drop i)) ∧ Ev (fun k=>slices_Index_int_int.l0 k l q (l.length:Int) (i:Int)) r:=by
 intro d
 induction d with
 | zero =>
  intro i hi
  refine ⟨-1,?_,Ev.step (f:=fun _=>some (-1)) (fun k=>?_) (Ev.now _)⟩
  ·rw [List.drop_eq_nil_of_le (by omega)];rfl
  ·rw [slices_Index_int_int.l0,if_neg (by omega)]
 | succ d ih =>
  intro i hi
  have hil:i < l.length:=by omega
  by_cases e:q = l[i]
  ·refine ⟨(i:Int),?_,Ev.step (f:=fun _=>some (i:Int)) (fun k=>?_) (Ev.now _)⟩
   ·rw [decide_eq_true (by omega),decide_eq_true]
    rw [List.drop_eq_getElem_cons hil,e];exact List.mem_cons_self
   ·rw [slices_Index_int_int.l0,if_pos (by omega),if_pos (by omega),if_pos (by omega),rd_get hil,if_pos e]
  ·obtain ⟨r,h1,h2⟩:=ih (i + 1) (by omega)
   refine ⟨r,?_,Ev.step (fun k=>?_) h2⟩
   ·rw [h1,List.drop_eq_getElem_cons hil,Bool.eq_iff_iff,decide_eq_true_iff,decide_eq_true_iff,List.mem_cons]
    exact ⟨fun h=>.inr h,fun h=>h.resolve_left e⟩
   ·rw [slices_Index_int_int.l0,if_pos (by omega),if_pos (by omega),if_pos (by omega),rd_get hil,if_neg e,wrap_succ (by omega)]
theorem ev_has {p:List Int} {u:List S45} {i:Nat} (hi:i < u.length) (hl:u[i].f1.length ≤ 1000000) (q:Int):Ev (fun k=>shares_net_has.f k p u (i:Int) q) (decide (q ∈ u[i].f1)):=by
 unfold shares_net_has.f
 refine Ev.congr (fun k=>if_pos (by omega)) (Ev.congr (fun k=>if_pos (by omega)) ?_)
 rw [rdT45 hi]
 obtain ⟨r,h1,h2⟩:=indexH_l0 hl q u[i].f1.length 0 (by omega)
 unfold slices_Contains_int_int.f slices_Index_int_int.f
 rw [List.drop_zero] at h1
 rw [← h1]
 exact Ev.bind (Ev.bind h2 (Ev.now _)) (Ev.now _)
theorem rhas_l0 {l:List Int} (hl:l.length ≤ 1000000) (q w:Int):∀ d i,i + d = l.length → Ev (fun k=>numnahref07_Has.l0 k q (i:Int) w l) (decide (q ∈ l.drop i)):=by
 intro d
 induction d with
 | zero =>
  intro i hi
  rw [List.drop_eq_nil_of_le (by omega)]
  refine Ev.step (f:=fun _=>some false) (fun k=>?_) (Ev.now _)
  rw [numnahref07_Has.l0,if_neg (by omega)]
 | succ d ih =>
  intro i hi
  have hil:i < l.length:=by omega
  rw [List.drop_eq_getElem_cons hil]
  by_cases e:l[i] = q
  ·rw [decide_eq_true (by rw [e];simp)]
   refine Ev.step (f:=fun _=>some true) (fun k=>?_) (Ev.now _)
   rw [numnahref07_Has.l0,if_pos (by omega),if_pos (by omega),rd_get hil,if_pos e]
  ·have e2:decide (q ∈ l[i] :: l.drop (i + 1)) = decide (q ∈ l.drop (i + 1)):=by
    rw [Bool.eq_iff_iff,decide_eq_true_iff,decide_eq_true_iff,List.mem_cons]
    exact ⟨fun h=>h.resolve_left fun h=>e h.symm,fun h=>.inr h⟩
   rw [e2]
   refine Ev.step (fun k=>?_) (ih (i + 1) (by omega))
   rw [numnahref07_Has.l0,if_pos (by omega),if_pos (by omega),rd_get hil,if_neg e,wrap_succ (by omega)]
theorem ev_rhas {l:List Int} (hl:l.length ≤ 1000000) (q w:Int):Ev (fun k=>numnahref07_Has.f k w l q) (decide (q ∈ l)):=by
 have:=rhas_l0 hl q w l.length 0 (by omega)
 rwa [List.drop_zero] at this
end Go.Proofs.Ytjohcjfmlhihbaa.P
namespace Go.Proofs.Ytjohcjfmlhihbaa.G
open Go.RowKit Go.Proofs.YtjohcjfmlhihbaaW.PrintWords Go.Proofs.YtjohcjfmlhihbaaW.PrintLast Go.Proofs.YtjohcjfmlhihbaaW.PrintMore
set_option maxHeartbeats 8000000
set_option maxRecDepth 100000
attribute [local go_sem] cond_true cond_false fld23_0 fld23_1 fld45_0 fld45_1 fld109_0 fld109_1 fld94_0 fld94_1 max2_int min2_int max_two min_two max_three min_three max_four min_four
def shares_net_level.f (k:Nat) (d4:List Int) (b8:List (S45)) (l1:List (S23)) (a2:Int):Option (Int × Int):=if 0 ≤ a2 then (if a2 < (l1.length:Int) then (if a2 < (b8.length:Int) then ((shares_over.f k ((rd_T23 l1 a2).f0) ((rd_T23 l1 a2).f1) ((rd_T45 b8 a2).f0)).bind fun d5=>(some (d5.1,d5.2))) else (none)) else (none)) else (none)
theorem shares_net_level.mono:∀ a0 a1 a2 a3 k,LeO (shares_net_level.f k a0 a1 a2 a3) (shares_net_level.f (k + 1) a0 a1 a2 a3):=by
 intro a0 a1 a2 a3 k
 unfold shares_net_level.f
 repeat' first
   | (with_reducible first | exact shares_over.mono _ _ _ _ | exact LeO.refl _ | exact LeO.none _ | refine LeO.ite ?_ ?_ | refine LeO.bind ?_ (fun _=>?_))
   | exact LeO.none _ | refine LeO.ite ?_ ?_ | refine LeO.bind ?_ (fun _=>?_)
def shares_net_level.T1:Bool × List (List Nat × List Nat):=(true,[([],[]),([],[]),([0,1],[0,1]),([2],[2]),([],[]),([4],[4]),([],[]),([5,6],[5,6]),([7],[7]),([8],[8]),([3,9],[3,9]),([10,10,0,1,2,3,4,5,6,7,8,9,10],[10])])
def shares_net_level.B1:List Nat:=[0,0,3,7,0,16,0,112,240,496,1023,2047]
theorem shares_net_level.tab1:rtab .any (opsOf Try.f108 1) = shares_net_level.T1:=by kernel_rfl
theorem shares_net_level.bits1:waitsOk shares_net_level.T1.2 shares_net_level.B1 = true:=by kernel_rfl
theorem shares_net_level.calls (k:Nat) (e0:Option Addr) (e1:Nat) (d4:List Int) (e9:Option Addr) (e2:Nat) (b8:List (S45)) (A1:Option Addr) (c1:Nat) (l1:List (S23)) (a2:Int) (r1:Int) (r2:Int) (w:World) (e4:Kd.C (Kd.int .i64) w e0 d4.length d4) (e5:d4.length ≤ e1) (e6:Kd.C k45 w e9 b8.length b8) (e7:b8.length ≤ e2) (i7:Kd.C k23 w A1 l1.length l1) (i8:l1.length ≤ c1) (h:shares_net_level.f k d4 b8 l1 a2 = some (r1,r2)) :
  Calls Try.prog 108 #[.agg #[.slice e0 d4.length e1,.slice e9 b8.length e2],.slice A1 l1.length c1,.int .i64 a2] w fun e w'=>e = .returned (.agg #[.int .i64 r1,.int .i64 r2]) ∧ Below w.heap.size w w':=by
 have i9:=Try.underlying109
 have l9:=Try.underlying23
 have j5:=A_ e4
 have j7:=A_ e5
 clear e4 e5
 have h7:=A_ e6
 have j8:=A_ e7
 clear e6 e7
 have m0:=A_ i7
 have m6:=A_ i8
 clear i7 i8
 have HB:=A_ (Below.refl w.heap.size w)
 have H:(if 0 ≤ a2 then (if a2 < (l1.length:Int) then (if a2 < (b8.length:Int) then ((shares_over.f k ((rd_T23 l1 a2).f0) ((rd_T23 l1 a2).f1) ((rd_T45 b8 a2).f0)).bind fun d5=>(some (d5.1,d5.2))) else (none)) else (none)) else (none)) = some (r1,r2):=h
 clear h
 replace H:=gd H
 obtain ⟨c4,H⟩:=H
 have m1:=decide_eq_true c4
 clear c4
 replace H:=gd H
 obtain ⟨c5,H⟩:=H
 have m2:=decide_eq_true c5
 clear c5
 replace H:=gd H
 obtain ⟨c6,H⟩:=H
 have m3:=decide_eq_true c6
 clear c6
 replace H:=Option.bind_eq_some_iff.mp H
 obtain ⟨⟨h0,h8⟩,A70,H⟩:=H
 dsimp only at H
 have A7:=A_ A70
 clear A70
 simp only [Option.some.injEq,Prod.mk.injEq] at H
 obtain ⟨rfl,rfl⟩:=H
 go_enter Try.func108,Try.ntmps108
 try go_wp2_with (first | ((with_reducible refine gate_dst (N:=3) rfl ?_);refine bx 3 #[.slice e0 d4.length e1,.slice e9 b8.length e2] 109 ?_;intro e8 hg w8 hbox hb;have b7:=A_ hbox;have h9:=gw hg HB;have j9:=h9;replace HB:=bB HB hb;clear hb hbox hg) | ((with_reducible refine gate_dst (N:=6) rfl ?_);refine bx 6 #[.int .i64 0,.int .i64 0] 23 ?_;intro b6 hg w9 hbox hb;have b9:=A_ hbox;have b0:=gw hg HB;have l5:=b0;have b5:=nl hg b7;have d3:=ng hg b7;replace b7:=kB b7 hb;replace HB:=bB HB hb;clear hb hbox hg))
 replace b7:=kD b7
 replace b9:=kD b9
 replace HB:=bD HB
 have h1:0 ≤ (a2:Int):=of_decide_eq_true (by assumption)
 have h2:a2 < (l1.length:Int):=of_decide_eq_true (by assumption)
 obtain ⟨d9,i5,c0,d0⟩:=at_T23 m0.out a2 h1 h2
 have b1:=d0
 have b2:=c0
 cases i5
 replace c0:=(HB.out.cell (World.block_lt_of_cell? w _ c0)).trans c0
 replace d0:=(HB.out.cell (World.block_lt_of_cell? w _ d0)).trans d0
 replace h1:=eq_true h1
 replace h2:=eq_true h2
 have h3:0 ≤ (a2:Int):=of_decide_eq_true (by assumption)
 have h4:a2 < (b8.length:Int):=of_decide_eq_true (by assumption)
 obtain ⟨d6,h5,h6,i6,d1,d2,d7,d8⟩:=at_T45 h7.out a2 h3 h4
 have b3:=d2
 have b4:=d1
 cases i6
 replace d1:=(HB.out.cell (World.block_lt_of_cell? w _ d1)).trans d1
 replace d2:=(HB.out.cell (World.block_lt_of_cell? w _ d2)).trans d2
 have e3:=A_ d8
 have i0:=A_ d7
 clear d8 d7
 replace h3:=eq_true h3
 replace h4:=eq_true h4
 refine start_ (n:=12) (S:=fun w'=>w'.cell? ⟨e8,0,none⟩ = some (.slice e0 d4.length e1) ∧ w'.cell? ⟨e8,1,none⟩ = some (.slice (some d6) b8.length e2) ∧ w'.cell? (d9.add ((a2).toNat * 2)) = some (.int .i64 ((rd_T23 l1 a2).f0)) ∧ w'.cell? ⟨(d9.add ((a2).toNat * 2)).block,(d9.add ((a2).toNat * 2)).off + 1,none⟩ = some (.int .i64 ((rd_T23 l1 a2).f1)) ∧ w'.cell? (d6.add ((a2).toNat * 2)) = some (.int .i64 ((rd_T45 b8 a2).f0)) ∧ w'.cell? ⟨(d6.add ((a2).toNat * 2)).block,(d6.add ((a2).toNat * 2)).off + 1,none⟩ = some (.slice h5 ((rd_T45 b8 a2).f1).length h6)) (ds:=[]) (ba 12 0) (by kernel_rfl) rfl rfl ⟨cz b7 0,cz b7 1,((HB.out.cell (World.block_lt_of_cell? w _ b2)).trans b2),((HB.out.cell (World.block_lt_of_cell? w _ b1)).trans b1),((HB.out.cell (World.block_lt_of_cell? w _ b4)).trans b4),((HB.out.cell (World.block_lt_of_cell? w _ b3)).trans b3)⟩ (fun hHeld=>?_);refine with_tabW shares_net_level.tab1 shares_net_level.bits1 (fun HT_ HW_=>?_)
 generalize w9.drew = m7 at b7 b9 HB e3 c0 d0 d1 d2 hHeld ⊢
 refine pq 0 7 1 HT_ ?_
 refine pq 1 8 3 HT_ ?_
 refine pq 2 9 7 HT_ ?_
 refine pq 4 11 23 HT_ ?_
 refine pq 6 13 87 HT_ ?_
 refine tq 3 10 95 HT_ HW_ hHeld ?_
 refine tq 5 12 127 HT_ HW_ hHeld ?_
 refine pq 7 14 255 HT_ ?_
 refine pq 8 15 511 HT_ ?_
 refine tq 9 16 1023 HT_ HW_ hHeld ?_
 refine oq 10 17 2047 HT_ (fun K hK=>?_)
 refine gq Try.func96 #[.agg #[.int .i64 ((rd_T23 l1 a2).f0),.int .i64 ((rd_T23 l1 a2).f1)],.int .i64 ((rd_T45 b8 a2).f0)] ?_
 with_reducible refine (shares_over.calls k ((rd_T23 l1 a2).f0) ((rd_T23 l1 a2).f1) ((rd_T45 b8 a2).f0) h0 h8 _ A7.out).mono ?_
 rintro e l6 ⟨rfl,hb⟩
 refine ⟨_,rfl,?_⟩
 replace b7:=kB b7 hb
 replace b9:=kB b9 hb
 replace HB:=bB HB hb
 (try clear hb)
 refine hK.out _ _ ⟨cz b7 0,cz b7 1,((HB.out.cell (World.block_lt_of_cell? w _ b2)).trans b2),((HB.out.cell (World.block_lt_of_cell? w _ b1)).trans b1),((HB.out.cell (World.block_lt_of_cell? w _ b4)).trans b4),((HB.out.cell (World.block_lt_of_cell? w _ b3)).trans b3)⟩ (fun hHeld=>?_)
 clear hK K
 refine nq 17 ?_
 refine one_ (i:=11) (N:=none) (ba 12 4095) rfl rfl (one_of HT_.out (by kernel_rfl)) (by decide) (fun K hK=>?_)
 have m4:l6.cell? ⟨b6,0,none⟩ = some (.int .i64 0):=cz b9 0
 have l7:=blk_frozen b9.out 0
 have i1:=b5.out
 have i2:=d3.out
 have m5:l6.cell? ⟨b6,1,none⟩ = some (.int .i64 0):=cz b9 1
 have l8:=blk_frozen b9.out 1
 have i3:=b5.out
 have i4:=d3.out
 refine skip_ (w1:=?_) (by rfl) rfl ?_ ?_
 rotate_left
 ·go_simp
  rfl
 refine hK.out _ _ ⟨((cell_far (p:=⟨b6,_,none⟩) b5.out _).trans (((cell_far (p:=⟨b6,_,none⟩) b5.out _).trans (hHeld.1)))),((cell_far (p:=⟨b6,_,none⟩) b5.out _).trans (((cell_far (p:=⟨b6,_,none⟩) b5.out _).trans (hHeld.2.1)))),((cell_far (p:=⟨b6,_,none⟩) (by first | exact Nat.ne_of_lt (Nat.lt_of_lt_of_le (by have:=World.block_lt_of_cell? _ _ b2;first | rwa [add_block] at this | exact this) b0.out) | (rw [add_block];exact Nat.ne_of_lt (Nat.lt_of_lt_of_le (by have:=World.block_lt_of_cell? _ _ b2;first | rwa [add_block] at this | exact this) b0.out)) | (show (Addr.add _ _).block ≠ _;rw [add_block];exact Nat.ne_of_lt (Nat.lt_of_lt_of_le (by have:=World.block_lt_of_cell? _ _ b2;first | rwa [add_block] at this | exact this) b0.out)) | (dsimp only;exact Nat.ne_of_lt (Nat.lt_of_lt_of_le (by have:=World.block_lt_of_cell? _ _ b2;first | rwa [add_block] at this | exact this) b0.out))) _).trans (((cell_far (p:=⟨b6,_,none⟩) (by first | exact Nat.ne_of_lt (Nat.lt_of_lt_of_le (by have:=World.block_lt_of_cell? _ _ b2;first | rwa [add_block] at this | exact this) b0.out) | (rw [add_block];exact Nat.ne_of_lt (Nat.lt_of_lt_of_le (by have:=World.block_lt_of_cell? _ _ b2;first | rwa [add_block] at this | exact this) b0.out)) | (show (Addr.add _ _).block ≠ _;rw [add_block];exact Nat.ne_of_lt (Nat.lt_of_lt_of_le (by have:=World.block_lt_of_cell? _ _ b2;first | rwa [add_block] at this | exact this) b0.out)) | (dsimp only;exact Nat.ne_of_lt (Nat.lt_of_lt_of_le (by have:=World.block_lt_of_cell? _ _ b2;first | rwa [add_block] at this | exact this) b0.out))) _).trans (hHeld.2.2.1)))),((cell_far (p:=⟨b6,_,none⟩) (by first | exact Nat.ne_of_lt (Nat.lt_of_lt_of_le (by have:=World.block_lt_of_cell? _ _ b1;first | rwa [add_block] at this | exact this) b0.out) | (rw [add_block];exact Nat.ne_of_lt (Nat.lt_of_lt_of_le (by have:=World.block_lt_of_cell? _ _ b1;first | rwa [add_block] at this | exact this) b0.out)) | (show (Addr.add _ _).block ≠ _;rw [add_block];exact Nat.ne_of_lt (Nat.lt_of_lt_of_le (by have:=World.block_lt_of_cell? _ _ b1;first | rwa [add_block] at this | exact this) b0.out)) | (dsimp only;exact Nat.ne_of_lt (Nat.lt_of_lt_of_le (by have:=World.block_lt_of_cell? _ _ b1;first | rwa [add_block] at this | exact this) b0.out))) _).trans (((cell_far (p:=⟨b6,_,none⟩) (by first | exact Nat.ne_of_lt (Nat.lt_of_lt_of_le (by have:=World.block_lt_of_cell? _ _ b1;first | rwa [add_block] at this | exact this) b0.out) | (rw [add_block];exact Nat.ne_of_lt (Nat.lt_of_lt_of_le (by have:=World.block_lt_of_cell? _ _ b1;first | rwa [add_block] at this | exact this) b0.out)) | (show (Addr.add _ _).block ≠ _;rw [add_block];exact Nat.ne_of_lt (Nat.lt_of_lt_of_le (by have:=World.block_lt_of_cell? _ _ b1;first | rwa [add_block] at this | exact this) b0.out)) | (dsimp only;exact Nat.ne_of_lt (Nat.lt_of_lt_of_le (by have:=World.block_lt_of_cell? _ _ b1;first | rwa [add_block] at this | exact this) b0.out))) _).trans (hHeld.2.2.2.1)))),((cell_far (p:=⟨b6,_,none⟩) (by first | exact Nat.ne_of_lt (Nat.lt_of_lt_of_le (by have:=World.block_lt_of_cell? _ _ b4;first | rwa [add_block] at this | exact this) b0.out) | (rw [add_block];exact Nat.ne_of_lt (Nat.lt_of_lt_of_le (by have:=World.block_lt_of_cell? _ _ b4;first | rwa [add_block] at this | exact this) b0.out)) | (show (Addr.add _ _).block ≠ _;rw [add_block];exact Nat.ne_of_lt (Nat.lt_of_lt_of_le (by have:=World.block_lt_of_cell? _ _ b4;first | rwa [add_block] at this | exact this) b0.out)) | (dsimp only;exact Nat.ne_of_lt (Nat.lt_of_lt_of_le (by have:=World.block_lt_of_cell? _ _ b4;first | rwa [add_block] at this | exact this) b0.out))) _).trans (((cell_far (p:=⟨b6,_,none⟩) (by first | exact Nat.ne_of_lt (Nat.lt_of_lt_of_le (by have:=World.block_lt_of_cell? _ _ b4;first | rwa [add_block] at this | exact this) b0.out) | (rw [add_block];exact Nat.ne_of_lt (Nat.lt_of_lt_of_le (by have:=World.block_lt_of_cell? _ _ b4;first | rwa [add_block] at this | exact this) b0.out)) | (show (Addr.add _ _).block ≠ _;rw [add_block];exact Nat.ne_of_lt (Nat.lt_of_lt_of_le (by have:=World.block_lt_of_cell? _ _ b4;first | rwa [add_block] at this | exact this) b0.out)) | (dsimp only;exact Nat.ne_of_lt (Nat.lt_of_lt_of_le (by have:=World.block_lt_of_cell? _ _ b4;first | rwa [add_block] at this | exact this) b0.out))) _).trans (hHeld.2.2.2.2.1)))),((cell_far (p:=⟨b6,_,none⟩) (by first | exact Nat.ne_of_lt (Nat.lt_of_lt_of_le (by have:=World.block_lt_of_cell? _ _ b3;first | rwa [add_block] at this | exact this) b0.out) | (rw [add_block];exact Nat.ne_of_lt (Nat.lt_of_lt_of_le (by have:=World.block_lt_of_cell? _ _ b3;first | rwa [add_block] at this | exact this) b0.out)) | (show (Addr.add _ _).block ≠ _;rw [add_block];exact Nat.ne_of_lt (Nat.lt_of_lt_of_le (by have:=World.block_lt_of_cell? _ _ b3;first | rwa [add_block] at this | exact this) b0.out)) | (dsimp only;exact Nat.ne_of_lt (Nat.lt_of_lt_of_le (by have:=World.block_lt_of_cell? _ _ b3;first | rwa [add_block] at this | exact this) b0.out))) _).trans (((cell_far (p:=⟨b6,_,none⟩) (by first | exact Nat.ne_of_lt (Nat.lt_of_lt_of_le (by have:=World.block_lt_of_cell? _ _ b3;first | rwa [add_block] at this | exact this) b0.out) | (rw [add_block];exact Nat.ne_of_lt (Nat.lt_of_lt_of_le (by have:=World.block_lt_of_cell? _ _ b3;first | rwa [add_block] at this | exact this) b0.out)) | (show (Addr.add _ _).block ≠ _;rw [add_block];exact Nat.ne_of_lt (Nat.lt_of_lt_of_le (by have:=World.block_lt_of_cell? _ _ b3;first | rwa [add_block] at this | exact this) b0.out)) | (dsimp only;exact Nat.ne_of_lt (Nat.lt_of_lt_of_le (by have:=World.block_lt_of_cell? _ _ b3;first | rwa [add_block] at this | exact this) b0.out))) _).trans (hHeld.2.2.2.2.2))))⟩ (fun hHeld=>?_)
 clear hK K
 refine done_ (done_of HT_.out (by kernel_rfl)) ?_
 try go_wp2
 refine bodyPost_ret (results_cell_row rfl _ _ b6 23 #[.int .i64 h0,.int .i64 h8] (0,0) _ rfl (by (with_reducible repeat (first | refine blk_drewN ?_ _ | refine blk_drew ?_ | refine blk_alloc ?_ _));refine blk_put (cs:=#[.int .i64 h0,.int .i64 0]) ?_ 1 _ rfl;(with_reducible repeat (first | refine blk_drewN ?_ _ | refine blk_drew ?_ | refine blk_alloc ?_ _));refine blk_put (cs:=#[.int .i64 0,.int .i64 0]) ?_ 0 _ rfl;(with_reducible repeat (first | refine blk_drewN ?_ _ | refine blk_drew ?_ | refine blk_alloc ?_ _));exact b9.out) Try.underlying23 rfl (by kernel_rfl)) rfl ?_
 exact ⟨rfl,bl HB⟩
end Go.Proofs.Ytjohcjfmlhihbaa.G
namespace Go.Proofs.Ytjohcjfmlhihbaa.G
open Go.RowKit Go.Proofs.YtjohcjfmlhihbaaW.PrintWords Go.Proofs.YtjohcjfmlhihbaaW.PrintLast Go.Proofs.YtjohcjfmlhihbaaW.PrintMore
set_option maxHeartbeats 8000000
set_option maxRecDepth 100000
attribute [local go_sem] cond_true cond_false fld23_0 fld23_1 fld45_0 fld45_1 fld109_0 fld109_1 fld94_0 fld94_1 max2_int min2_int max_two min_two max_three min_three max_four min_four
attribute [local go_sem high] eqA23
mutual
def shares_net_holds.j0:Nat → List (S23) → Int → Int → Bool → List Int → List (S45) → Option (Bool)
 | 0,_,_,_,_,_,_=>none
 | k + 1,x1,x2,x3,x36,c0,b9=>if x36 = true then (some false) else (shares_net_holds.l0 k x1 x2 x3 (b9.length:Int) 0 c0 b9)
def shares_net_holds.l0:Nat → List (S23) → Int → Int → Int → Int → List Int → List (S45) → Option (Bool)
 | 0,_,_,_,_,_,_,_=>none
 | k + 1,x1,x2,x3,m2,h9,c0,b9=>if h9 < m2 then ((shares_net_has.f k c0 b9 h9 x2).bind fun e9=>(if e9 = true then ((shares_net_level.f k c0 b9 x1 h9).bind fun d8=>((shares_net_level.f k c0 b9 x1 x3).bind fun d9=>((shares_compare.f k d8.1 d8.2 d9.1 d9.2).bind fun e0=>(if e0 > 0 then (some false) else (shares_net_holds.l0 k x1 x2 x3 m2 (wrap64 (h9 + 1)) c0 b9))))) else (shares_net_holds.l0 k x1 x2 x3 m2 (wrap64 (h9 + 1)) c0 b9))) else (some true)
end
def shares_net_holds.f (k:Nat) (b1:List Int) (b2:List (S45)) (l1:List (S23)) (a2:Int) (a3:Int):Option (Bool):=(shares_within.f a2 0 (wrap64 ((b1.length:Int) - 1))).bind fun e4=>(if e4 = true then ((shares_net_has.f k b1 b2 a3 a2).bind fun e1=>(if e1 = true then ((shares_net_load.f k b1 b2 l1 a2).bind fun d1=>(if 0 ≤ a2 then (if a2 < (b1.length:Int) then ((shares_whole.f (rd b1 a2)).bind fun d2=>(shares_net_holds.j0 k l1 a2 a3 (!(d1.1 == d2.1) || (!(d1.2 == d2.2))) b1 b2)) else (none)) else (none))) else (shares_net_holds.j0 k l1 a2 a3 true b1 b2))) else (shares_net_holds.j0 k l1 a2 a3 true b1 b2))
theorem shares_net_holds.mono_l:∀ k,(∀ y0 y1 y2 y3 y4 y5,LeO (shares_net_holds.j0 k y0 y1 y2 y3 y4 y5) (shares_net_holds.j0 (k + 1) y0 y1 y2 y3 y4 y5)) ∧ (∀ y0 y1 y2 y3 y4 y5 y6,LeO (shares_net_holds.l0 k y0 y1 y2 y3 y4 y5 y6) (shares_net_holds.l0 (k + 1) y0 y1 y2 y3 y4 y5 y6))
 | 0=>⟨fun _ _ _ _ _ _ r h=>by simp [shares_net_holds.j0] at h,fun _ _ _ _ _ _ _ r h=>by simp [shares_net_holds.l0] at h⟩
 | k + 1=>by
  obtain ⟨j7,j8⟩:=shares_net_holds.mono_l k
  refine ⟨?_,?_⟩
  ·intro y0 y1 y2 y3 y4 y5
   unfold shares_net_holds.j0
   repeat' first
   | (with_reducible first | exact j7 _ _ _ _ _ _ | exact j8 _ _ _ _ _ _ _ | exact shares_compare.mono _ _ _ _ _ | exact shares_net_has.mono _ _ _ _ _ | exact shares_net_level.mono _ _ _ _ _ | exact shares_net_load.mono _ _ _ _ _ | exact LeO.refl _ | exact LeO.none _ | refine LeO.ite ?_ ?_ | refine LeO.bind ?_ (fun _=>?_))
   | exact LeO.none _ | refine LeO.ite ?_ ?_ | refine LeO.bind ?_ (fun _=>?_)
  intro y0 y1 y2 y3 y4 y5 y6
  unfold shares_net_holds.l0
  repeat' first
  | (with_reducible first | exact j7 _ _ _ _ _ _ | exact j8 _ _ _ _ _ _ _ | exact shares_compare.mono _ _ _ _ _ | exact shares_net_has.mono _ _ _ _ _ | exact shares_net_level.mono _ _ _ _ _ | exact shares_net_load.mono _ _ _ _ _ | exact LeO.refl _ | exact LeO.none _ | refine LeO.ite ?_ ?_ | refine LeO.bind ?_ (fun _=>?_))
  | exact LeO.none _ | refine LeO.ite ?_ ?_ | refine LeO.bind ?_ (fun _=>?_)
theorem shares_net_holds.mono:∀ a0 a1 a2 a3 a4 k,LeO (shares_net_holds.f k a0 a1 a2 a3 a4) (shares_net_holds.f (k + 1) a0 a1 a2 a3 a4):=by
 intro a0 a1 a2 a3 a4 k
 obtain ⟨j7,j8⟩:=shares_net_holds.mono_l k
 unfold shares_net_holds.f
 repeat' first
   | (with_reducible first | exact j7 _ _ _ _ _ _ | exact j8 _ _ _ _ _ _ _ | exact shares_compare.mono _ _ _ _ _ | exact shares_net_has.mono _ _ _ _ _ | exact shares_net_level.mono _ _ _ _ _ | exact shares_net_load.mono _ _ _ _ _ | exact LeO.refl _ | exact LeO.none _ | refine LeO.ite ?_ ?_ | refine LeO.bind ?_ (fun _=>?_))
   | exact LeO.none _ | refine LeO.ite ?_ ?_ | refine LeO.bind ?_ (fun _=>?_)
def shares_net_holds.T1:Bool × List (List Nat × List Nat):=(true,[([],[]),([],[]),([1],[1]),([2],[2]),([3],[3]),([0,4],[0,4]),([5],[5]),([6,5],[6]),([7],[7]),([7],[7]),([7],[7]),([8,9,10,7,7],[7,8,9,10]),([11,7],[7,11]),([7,12],[7,12]),([13,11],[13]),([14],[14]),([14],[14]),([14],[14]),([15,16,17,14,14],[14,15,16,17]),([14],[14]),([19,14],[14,19]),([14],[14]),([20,21,14],[14,20,21]),([22,14],[14,22]),([23,18,14],[14,23]),([18,24,14],[14,18,24]),([14,25],[14,25])])
def shares_net_holds.B1:List Nat:=[0,0,2,6,14,31,63,127,255,255,255,2047,4095,8191,16383,32767,32767,32767,262143,32767,557055,32767,3702783,7897087,16777215,33554431,67108863]
theorem shares_net_holds.tab1:rtab .any (opsOf Try.f76 1) = shares_net_holds.T1:=by kernel_rfl
theorem shares_net_holds.bits1:waitsOk shares_net_holds.T1.2 shares_net_holds.B1 = true:=by kernel_rfl
def shares_net_holds.T6:Bool × List (List Nat × List Nat):=(true,[([],[]),([],[]),([],[]),([0,1,2],[0,1,2]),([3,3],[3]),([4],[4]),([4],[4]),([4],[4]),([5,6,7,4,4],[4,5,6,7]),([4],[4]),([4],[4]),([4],[4]),([9,10,11,8,4],[4,9,10,11]),([8,12,12,4],[4,8,12]),([13,4],[4,13]),([4,14],[4,14])])
def shares_net_holds.B6:List Nat:=[0,0,0,7,15,31,31,31,255,31,31,31,4095,8191,16383,32767]
theorem shares_net_holds.tab6:rtab .any (opsOf Try.f76 6) = shares_net_holds.T6:=by kernel_rfl
theorem shares_net_holds.bits6:waitsOk shares_net_holds.T6.2 shares_net_holds.B6 = true:=by kernel_rfl
theorem shares_net_holds.calls (k:Nat) (d0:Option Addr) (b6:Nat) (b1:List Int) (b7:Option Addr) (b8:Nat) (b2:List (S45)) (A1:Option Addr) (c1:Nat) (l1:List (S23)) (a2:Int) (a3:Int) (r:Bool) (w:World) (h0:Kd.C (Kd.int .i64) w d0 b1.length b1) (h1:b1.length ≤ b6) (h2:Kd.C k45 w b7 b2.length b2) (h3:b2.length ≤ b8) (m6:Kd.C k23 w A1 l1.length l1) (m7:l1.length ≤ c1) (h:shares_net_holds.f k b1 b2 l1 a2 a3 = some r) :
  Calls Try.prog 76 #[.agg #[.slice d0 b1.length b6,.slice b7 b2.length b8],.slice A1 l1.length c1,.int .i64 a2,.int .i64 a3] w fun e w'=>e = .returned (.bool r) ∧ Below w.heap.size w w':=by
 have m8:=Try.underlying109
 have d3:=A_ h0
 have d4:=A_ h1
 clear h0 h1
 have d5:=A_ h2
 have d6:=A_ h3
 clear h2 h3
 have i0:=A_ m6
 have i1:=A_ m7
 clear m6 m7
 have HB:=A_ (Below.refl w.heap.size w)
 have H:((shares_within.f a2 0 (wrap64 ((b1.length:Int) - 1))).bind fun e4=>(if e4 = true then ((shares_net_has.f k b1 b2 a3 a2).bind fun e1=>(if e1 = true then ((shares_net_load.f k b1 b2 l1 a2).bind fun d1=>(if 0 ≤ a2 then (if a2 < (b1.length:Int) then ((shares_whole.f (rd b1 a2)).bind fun d2=>(shares_net_holds.j0 k l1 a2 a3 (!(d1.1 == d2.1) || (!(d1.2 == d2.2))) b1 b2)) else (none)) else (none))) else (shares_net_holds.j0 k l1 a2 a3 true b1 b2))) else (shares_net_holds.j0 k l1 a2 a3 true b1 b2))) = some r:=h
 clear h
 have m3:=A_ H
 clear H
 go_enter Try.func76,Try.ntmps76
 go_upto_region 1 with (first | ((with_reducible refine gate_dst (N:=4) rfl ?_);refine bx 4 #[.slice d0 b1.length b6,.slice b7 b2.length b8] 109 ?_;intro b5 hg w6 hbox hb;have b0:=A_ hbox;have i2:=gw hg HB;have m9:=i2;replace HB:=bB HB hb;clear hb hbox hg))
 (try simp only [Act.put,List.setIfInBounds_toArray,List.set_cons_zero,List.set_cons_succ])
 go_cut [36] (fun n9 wc=>∃ (kq:Nat) (e2:Bool),n9 = .bool e2 ∧ Aside0 (shares_net_holds.j0 kq l1 a2 a3 e2 b1 b2 = some r) ∧ Aside0 (kq ≤ k) ∧ Aside0 (wc.heap[b5]? = some (.cells #[(.slice d0 b1.length b6),(.slice b7 b2.length b8)] 109 (0,0))) ∧ Aside0 (Below w.heap.size w wc))
 case first =>
  have H:=m3.out
  clear m3
  replace H:=Option.bind_eq_some_iff.mp H
  obtain ⟨e4,n0,H⟩:=H
  replace H:(if e4 = true then ((shares_net_has.f k b1 b2 a3 a2).bind fun e1=>(if e1 = true then ((shares_net_load.f k b1 b2 l1 a2).bind fun d1=>(if 0 ≤ a2 then (if a2 < (b1.length:Int) then ((shares_whole.f (rd b1 a2)).bind fun d2=>(shares_net_holds.j0 k l1 a2 a3 (!(d1.1 == d2.1) || (!(d1.2 == d2.2))) b1 b2)) else (none)) else (none))) else (shares_net_holds.j0 k l1 a2 a3 true b1 b2))) else (shares_net_holds.j0 k l1 a2 a3 true b1 b2)) = some r:=H
  have A7:=A_ n0
  clear n0
  by_cases c8:e4 = true
  case neg =>
   replace c8:=Bool.eq_false_iff.mpr c8
   subst c8
   rw [if_neg (show ¬ (false = true) by decide)] at H
   have H':=A_ H
   clear H
   try go_wp2
   replace b0:=kD b0
   replace HB:=bD HB
   refine st 27 (fun w'=>w'.cell? ⟨b5,0,none⟩ = some (.slice d0 b1.length b6) ∧ w'.cell? ⟨b5,1,none⟩ = some (.slice b7 b2.length b8)) [] shares_net_holds.tab1 shares_net_holds.bits1 (fun hHeld HT_ HW_=>?_)
   generalize w6.drew = o3 at b0 HB hHeld ⊢
   refine pq 0 10 1 HT_ ?_
   refine pq 1 11 3 HT_ ?_
   refine tq 2 12 7 HT_ HW_ hHeld ?_
   refine pq 3 13 15 HT_ ?_
   refine pq 4 14 31 HT_ ?_
   refine oq 5 15 63 HT_ (fun K hK=>?_)
   refine gq Try.func92 #[.int .i64 a2,.int .i64 0,.int .i64 (wrap64 ((b1.length:Int) - 1))] ?_
   with_reducible refine (shares_within.calls a2 0 (wrap64 ((b1.length:Int) - 1)) false _ A7.out).mono ?_
   rintro e w' ⟨rfl,⟨nd,rfl⟩⟩
   refine ⟨_,rfl,?_⟩
   refine hz hK (fun hHeld=>?_)
   clear hK K
   refine nq 15 ?_
   refine pq 6 16 127 HT_ ?_
   refine pq 7 17 255 HT_ ?_
   refine pu 8 18 511 HT_ ?_
   refine pu 9 19 1023 HT_ ?_
   refine pu 10 20 2047 HT_ ?_
   refine pu 11 21 4095 HT_ ?_
   refine pu 12 22 8191 HT_ ?_
   refine pq 13 23 16383 HT_ ?_
   refine pq 14 24 32767 HT_ ?_
   refine pu 15 25 65535 HT_ ?_
   refine pu 16 26 131071 HT_ ?_
   refine pu 17 27 262143 HT_ ?_
   refine pu 18 28 524287 HT_ ?_
   refine pu 19 29 1048575 HT_ ?_
   refine pu 20 30 2097151 HT_ ?_
   refine pu 21 31 4194303 HT_ ?_
   refine pu 22 32 8388607 HT_ ?_
   refine pu 23 33 16777215 HT_ ?_
   refine pu 24 34 33554431 HT_ ?_
   refine pu 25 35 67108863 HT_ ?_
   refine pq 26 36 134217727 HT_ ?_
   refine done_ (done_of HT_.out (by kernel_rfl)) ?_
   try go_wp2
   go_meet
   case rel=>exact ⟨_,(true),rfl,H',⟨by first | omega | exact Nat.le_refl _⟩,⟨by exact b0.out⟩,⟨bl HB⟩⟩
  subst c8
  rw [if_pos rfl] at H
  replace H:=Option.bind_eq_some_iff.mp H
  obtain ⟨e1,n1,H⟩:=H
  replace H:(if e1 = true then ((shares_net_load.f k b1 b2 l1 a2).bind fun d1=>(if 0 ≤ a2 then (if a2 < (b1.length:Int) then ((shares_whole.f (rd b1 a2)).bind fun d2=>(shares_net_holds.j0 k l1 a2 a3 (!(d1.1 == d2.1) || (!(d1.2 == d2.2))) b1 b2)) else (none)) else (none))) else (shares_net_holds.j0 k l1 a2 a3 true b1 b2)) = some r:=H
  have A9:=A_ n1
  clear n1
  by_cases c10:e1 = true
  case neg =>
   replace c10:=Bool.eq_false_iff.mpr c10
   subst c10
   rw [if_neg (show ¬ (false = true) by decide)] at H
   have H':=A_ H
   clear H
   try go_wp2
   replace b0:=kD b0
   replace HB:=bD HB
   refine st 27 (fun w'=>w'.cell? ⟨b5,0,none⟩ = some (.slice d0 b1.length b6) ∧ w'.cell? ⟨b5,1,none⟩ = some (.slice b7 b2.length b8)) [] shares_net_holds.tab1 shares_net_holds.bits1 (fun hHeld HT_ HW_=>?_)
   generalize w6.drew = o4 at b0 HB hHeld ⊢
   refine pq 0 10 1 HT_ ?_
   refine pq 1 11 3 HT_ ?_
   refine tq 2 12 7 HT_ HW_ hHeld ?_
   refine pq 3 13 15 HT_ ?_
   refine pq 4 14 31 HT_ ?_
   refine oq 5 15 63 HT_ (fun K hK=>?_)
   refine gq Try.func92 #[.int .i64 a2,.int .i64 0,.int .i64 (wrap64 ((b1.length:Int) - 1))] ?_
   with_reducible refine (shares_within.calls a2 0 (wrap64 ((b1.length:Int) - 1)) true _ A7.out).mono ?_
   rintro e w' ⟨rfl,⟨nd,rfl⟩⟩
   refine ⟨_,rfl,?_⟩
   refine hz hK (fun hHeld=>?_)
   clear hK K
   refine nq 15 ?_
   refine pq 6 16 127 HT_ ?_
   refine pq 7 17 255 HT_ ?_
   refine pq 9 19 767 HT_ ?_
   refine pq 10 20 1791 HT_ ?_
   refine tq 8 18 2047 HT_ HW_ hHeld ?_
   refine oq 11 21 4095 HT_ (fun K hK=>?_)
   refine gq Try.func104 #[.agg #[.slice d0 b1.length b6,.slice b7 b2.length b8],.int .i64 a3,.int .i64 a2] ?_
   with_reducible refine (shares_net_has.calls k _ _ b1 _ _ b2 a3 a2 false _ ?side1 ?side2 ?side3 ?side4 A9.out).mono ?_
   (case side1=>exact cB d3 HB)
   (case side2=>exact d4.out)
   (case side3=>exact cB d5 HB)
   (case side4=>exact d6.out)
   rintro e o5 ⟨rfl,hb⟩
   refine ⟨_,rfl,?_⟩
   replace b0:=kB b0 hb
   replace HB:=bB HB hb
   (try clear hb)
   refine hz hK (fun hHeld=>?_)
   clear hK K
   refine nq 21 ?_
   refine pq 12 22 8191 HT_ ?_
   refine pq 13 23 16383 HT_ ?_
   refine pq 14 24 32767 HT_ ?_
   refine pu 15 25 65535 HT_ ?_
   refine pu 16 26 131071 HT_ ?_
   refine pu 17 27 262143 HT_ ?_
   refine pu 18 28 524287 HT_ ?_
   refine pu 19 29 1048575 HT_ ?_
   refine pu 20 30 2097151 HT_ ?_
   refine pu 21 31 4194303 HT_ ?_
   refine pu 22 32 8388607 HT_ ?_
   refine pu 23 33 16777215 HT_ ?_
   refine pu 24 34 33554431 HT_ ?_
   refine pu 25 35 67108863 HT_ ?_
   refine pq 26 36 134217727 HT_ ?_
   refine done_ (done_of HT_.out (by kernel_rfl)) ?_
   try go_wp2
   go_meet
   case rel=>exact ⟨_,(true),rfl,H',⟨by first | omega | exact Nat.le_refl _⟩,⟨by exact b0.out⟩,⟨bl HB⟩⟩
  subst c10
  rw [if_pos rfl] at H
  replace H:=Option.bind_eq_some_iff.mp H
  obtain ⟨⟨i3,i4⟩,A110,H⟩:=H
  dsimp only at H
  have o0:=A_ A110
  clear A110
  replace H:=gd H
  obtain ⟨n2,H⟩:=H
  have h4:=decide_eq_true n2
  clear n2
  (first | rw [h4] | (simp only [i64_w,i32_w];rw [h4]) | skip)
  replace H:=gd H
  obtain ⟨n3,H⟩:=H
  have n4:=decide_eq_true n3
  clear n3
  replace H:=Option.bind_eq_some_iff.mp H
  obtain ⟨⟨i5,i6⟩,A140,H⟩:=H
  dsimp only at H
  have o1:=A_ A140
  clear A140
  have H':=A_ H
  clear H
  try go_wp2
  replace b0:=kD b0
  replace HB:=bD HB
  have h5:0 ≤ (a2:Int):=of_decide_eq_true (by assumption)
  have h6:a2 < (b1.length:Int):=of_decide_eq_true (by assumption)
  obtain ⟨e3,m4,d7⟩:=Kd.at_int d3.out a2 h5 h6
  have b4:=d7
  cases m4
  replace d7:=(HB.out.cell (World.block_lt_of_cell? w _ d7)).trans d7
  replace h5:=eq_true h5
  replace h6:=eq_true h6
  refine start_ (n:=27) (S:=fun w'=>w'.cell? ⟨b5,0,none⟩ = some (.slice (some e3) b1.length b6) ∧ w'.cell? ⟨b5,1,none⟩ = some (.slice b7 b2.length b8) ∧ w'.cell? (e3.add (a2).toNat) = some (.int .i64 (rd b1 a2))) (ds:=[]) (ba 27 0) (by kernel_rfl) rfl rfl ⟨cz b0 0,cz b0 1,((HB.out.cell (World.block_lt_of_cell? w _ b4)).trans b4)⟩ (fun hHeld=>?_);refine with_tabW shares_net_holds.tab1 shares_net_holds.bits1 (fun HT_ HW_=>?_)
  generalize w6.drew = o6 at b0 HB d7 hHeld ⊢
  refine pq 0 10 1 HT_ ?_
  refine pq 1 11 3 HT_ ?_
  refine tq 2 12 7 HT_ HW_ hHeld ?_
  refine pq 3 13 15 HT_ ?_
  refine pq 4 14 31 HT_ ?_
  refine oq 5 15 63 HT_ (fun K hK=>?_)
  refine gq Try.func92 #[.int .i64 a2,.int .i64 0,.int .i64 (wrap64 ((b1.length:Int) - 1))] ?_
  with_reducible refine (shares_within.calls a2 0 (wrap64 ((b1.length:Int) - 1)) true _ A7.out).mono ?_
  rintro e w' ⟨rfl,⟨nd,rfl⟩⟩
  refine ⟨_,rfl,?_⟩
  refine hK.out _ _ ⟨cz b0 0,cz b0 1,((HB.out.cell (World.block_lt_of_cell? w _ b4)).trans b4)⟩ (fun hHeld=>?_)
  clear hK K
  refine nq 15 ?_
  refine pq 6 16 127 HT_ ?_
  refine pq 7 17 255 HT_ ?_
  refine pq 9 19 767 HT_ ?_
  refine pq 10 20 1791 HT_ ?_
  refine tq 8 18 2047 HT_ HW_ hHeld ?_
  refine oq 11 21 4095 HT_ (fun K hK=>?_)
  refine gq Try.func104 #[.agg #[.slice (some e3) b1.length b6,.slice b7 b2.length b8],.int .i64 a3,.int .i64 a2] ?_
  with_reducible refine (shares_net_has.calls k _ _ b1 _ _ b2 a3 a2 true _ ?side1 ?side2 ?side3 ?side4 A9.out).mono ?_
  (case side1=>exact cB d3 HB)
  (case side2=>exact d4.out)
  (case side3=>exact cB d5 HB)
  (case side4=>exact d6.out)
  rintro e o7 ⟨rfl,hb⟩
  refine ⟨_,rfl,?_⟩
  replace b0:=kB b0 hb
  replace HB:=bB HB hb
  (try clear hb)
  refine hK.out _ _ ⟨cz b0 0,cz b0 1,((HB.out.cell (World.block_lt_of_cell? w _ b4)).trans b4)⟩ (fun hHeld=>?_)
  clear hK K
  refine nq 21 ?_
  refine pq 12 22 8191 HT_ ?_
  refine pq 13 23 16383 HT_ ?_
  refine pq 14 24 32767 HT_ ?_
  refine pq 16 26 98303 HT_ ?_
  refine pq 17 27 229375 HT_ ?_
  refine pq 19 29 753663 HT_ ?_
  refine pq 21 31 2850815 HT_ ?_
  refine tq 15 25 2883583 HT_ HW_ hHeld ?_
  refine tq 20 30 3932159 HT_ HW_ hHeld ?_
  refine pq 22 32 8126463 HT_ ?_
  refine tq 23 33 16515071 HT_ HW_ hHeld ?_
  refine oq 18 28 16777215 HT_ (fun K hK=>?_)
  refine gq Try.func107 #[.agg #[.slice (some e3) b1.length b6,.slice b7 b2.length b8],.slice A1 l1.length c1,.int .i64 a2] ?_
  with_reducible refine (shares_net_load.calls k _ _ b1 _ _ b2 _ _ l1 a2 i3 i4 _ ?side1 ?side2 ?side3 ?side4 ?side5 ?side6 o0.out).mono ?_
  (case side1=>exact cB d3 HB)
  (case side2=>exact d4.out)
  (case side3=>exact cB d5 HB)
  (case side4=>exact d6.out)
  (case side5=>exact cB i0 HB)
  (case side6=>exact i1.out)
  rintro e o8 ⟨rfl,hb⟩
  refine ⟨_,rfl,?_⟩
  replace b0:=kB b0 hb
  replace HB:=bB HB hb
  (try clear hb)
  refine hK.out _ _ ⟨cz b0 0,cz b0 1,((HB.out.cell (World.block_lt_of_cell? w _ b4)).trans b4)⟩ (fun hHeld=>?_)
  clear hK K
  refine nq 28 ?_
  refine oq 24 34 33554431 HT_ (fun K hK=>?_)
  refine gq Try.func64 #[.int .i64 (rd b1 a2)] ?_
  with_reducible refine (shares_whole.calls (rd b1 a2) i5 i6 _ o1.out).mono ?_
  rintro e o9 ⟨rfl,hb⟩
  refine ⟨_,rfl,?_⟩
  replace b0:=kB b0 hb
  replace HB:=bB HB hb
  (try clear hb)
  refine hK.out _ _ ⟨cz b0 0,cz b0 1,((HB.out.cell (World.block_lt_of_cell? w _ b4)).trans b4)⟩ (fun hHeld=>?_)
  clear hK K
  refine nq 34 ?_
  refine pq 25 35 67108863 HT_ ?_
  refine pq 26 36 134217727 HT_ ?_
  refine done_ (done_of HT_.out (by kernel_rfl)) ?_
  try go_wp2
  go_meet
  case rel=>exact ⟨_,((!(i3 == i5) || (!(i4 == i6)))),rfl,H',⟨by first | omega | exact Nat.le_refl _⟩,⟨by exact b0.out⟩,⟨bl HB⟩⟩
 case rest =>
  clear m3
  obtain ⟨kq,e2,rfl,HA,j9,b0,HB⟩:=hcut
  cases kq with
  | zero=>exact absurd HA.out (by simp [shares_net_holds.j0])
  | succ n5 =>
   have H:=HA.out
   clear HA
   simp only [shares_net_holds.j0] at H
   by_cases l5:e2 = true
   ·subst l5
    rw [if_pos rfl] at H
    obtain rfl:=Option.some.inj H
    go_wp2
    go_ret
    exact ⟨rfl,bl HB⟩
   replace l5:=Bool.eq_false_iff.mpr l5
   subst l5
   rw [if_neg (show ¬ (false = true) by decide)] at H
   have H':=A_ H
   clear H
   have l6:wc.cell? ⟨b5,0,none⟩ = some (.slice d0 b1.length b6):=cz b0 0
   have l7:wc.cell? ⟨b5,1,none⟩ = some (.slice b7 b2.length b8):=cz b0 1
   have l8:=blk_frozen b0.out 0
   have l9:=blk_frozen b0.out 1
   go_wp2
   go_loopg [40] n5 (fun kq o2 w'=>∃ (b3:Int),o2 = .int .i64 b3 ∧ Aside0 (shares_net_holds.l0 kq l1 a2 a3 (b2.length:Int) b3 b1 b2 = some r) ∧ Aside0 (kq ≤ n5) ∧ Aside0 (w'.heap[b5]? = some (.cells #[(.slice d0 b1.length b6),(.slice b7 b2.length b8)] 109 (0,0))) ∧ Aside0 (Below w.heap.size w w'))
   case atStart=>exact ⟨(0),rfl,H',⟨Nat.le_refl _⟩,⟨by exact b0.out⟩,⟨bl HB⟩⟩
   case round =>
    clear H'
    obtain ⟨b3,rfl,HA,m0,b0,HB⟩:=hrel
    cases gk with
    | zero=>exact absurd HA.out (by simp [shares_net_holds.l0])
    | succ k2 =>
     have H:=HA.out
     clear HA
     simp only [shares_net_holds.l0] at H
     by_cases h7:b3 < (b2.length:Int)
     case neg =>
      rw [if_neg h7] at H
      have i7:=decide_eq_false h7
      clear h7
      obtain rfl:=Option.some.inj H
      go_wp2
      go_ret
      exact ⟨rfl,bl HB⟩
     rw [if_pos h7] at H
     have i7:=decide_eq_true h7
     clear h7
     replace H:=Option.bind_eq_some_iff.mp H
     obtain ⟨e9,i8,H⟩:=H
     replace H:(if e9 = true then ((shares_net_level.f k2 b1 b2 l1 b3).bind fun d8=>((shares_net_level.f k2 b1 b2 l1 a3).bind fun d9=>((shares_compare.f k2 d8.1 d8.2 d9.1 d9.2).bind fun e0=>(if e0 > 0 then (some false) else (shares_net_holds.l0 k2 l1 a2 a3 (b2.length:Int) (wrap64 (b3 + 1)) b1 b2))))) else (shares_net_holds.l0 k2 l1 a2 a3 (b2.length:Int) (wrap64 (b3 + 1)) b1 b2)) = some r:=H
     have m5:=A_ i8
     clear i8
     by_cases m1:e9 = true
     case neg =>
      replace m1:=Bool.eq_false_iff.mpr m1
      subst m1
      rw [if_neg (show ¬ (false = true) by decide)] at H
      have H':=A_ H
      clear H
      try go_wp2
      replace b0:=kD b0
      replace HB:=bD HB
      refine st 16 (fun w'=>w'.cell? ⟨b5,0,none⟩ = some (.slice d0 b1.length b6) ∧ w'.cell? ⟨b5,1,none⟩ = some (.slice b7 b2.length b8)) [] shares_net_holds.tab6 shares_net_holds.bits6 (fun hHeld HT_ HW_=>?_)
      generalize wr.drew = p0 at b0 HB hHeld ⊢
      refine pq 1 44 2 HT_ ?_
      refine pq 2 45 6 HT_ ?_
      refine tq 0 43 7 HT_ HW_ hHeld ?_
      refine oq 3 46 15 HT_ (fun K hK=>?_)
      refine gq Try.func104 #[.agg #[.slice d0 b1.length b6,.slice b7 b2.length b8],.int .i64 b3,.int .i64 a2] ?_
      with_reducible refine (shares_net_has.calls k2 _ _ b1 _ _ b2 b3 a2 false _ ?side1 ?side2 ?side3 ?side4 m5.out).mono ?_
      (case side1=>exact cB d3 HB)
      (case side2=>exact d4.out)
      (case side3=>exact cB d5 HB)
      (case side4=>exact d6.out)
      rintro e p1 ⟨rfl,hb⟩
      refine ⟨_,rfl,?_⟩
      replace b0:=kB b0 hb
      replace HB:=bB HB hb
      (try clear hb)
      refine hz hK (fun hHeld=>?_)
      clear hK K
      refine nq 46 ?_
      refine pq 4 47 31 HT_ ?_
      refine pu 5 48 63 HT_ ?_
      refine pu 6 49 127 HT_ ?_
      refine pu 7 50 255 HT_ ?_
      refine pu 8 51 511 HT_ ?_
      refine pu 9 52 1023 HT_ ?_
      refine pu 10 53 2047 HT_ ?_
      refine pu 11 54 4095 HT_ ?_
      refine pu 12 55 8191 HT_ ?_
      refine pu 13 56 16383 HT_ ?_
      refine pu 14 57 32767 HT_ ?_
      refine pq 15 58 65535 HT_ ?_
      refine done_ (done_of HT_.out (by kernel_rfl)) ?_
      try go_wp2
      go_roundg k2
      case measure=>have:=j9.out;have:=m0.out;omega
      case rel=>exact ⟨(wrap64 (b3 + 1)),rfl,H',⟨by have:=j9.out;have:=m0.out;omega⟩,⟨by exact b0.out⟩,⟨bl HB⟩⟩
     subst m1
     rw [if_pos rfl] at H
     replace H:=Option.bind_eq_some_iff.mp H
     obtain ⟨⟨e5,e6⟩,A270,H⟩:=H
     dsimp only at H
     have n6:=A_ A270
     clear A270
     replace H:=Option.bind_eq_some_iff.mp H
     obtain ⟨⟨e7,e8⟩,A280,H⟩:=H
     dsimp only at H
     have n7:=A_ A280
     clear A280
     replace H:=Option.bind_eq_some_iff.mp H
     obtain ⟨e0,i9,H⟩:=H
     replace H:(if e0 > 0 then (some false) else (shares_net_holds.l0 k2 l1 a2 a3 (b2.length:Int) (wrap64 (b3 + 1)) b1 b2)) = some r:=H
     have n8:=A_ i9
     clear i9
     by_cases h8:e0 > 0
     ·rw [if_pos h8] at H
      have j5:=decide_eq_true h8
      clear h8
      obtain rfl:=Option.some.inj H
      try go_wp2
      replace b0:=kD b0
      replace HB:=bD HB
      refine st 16 (fun w'=>w'.cell? ⟨b5,0,none⟩ = some (.slice d0 b1.length b6) ∧ w'.cell? ⟨b5,1,none⟩ = some (.slice b7 b2.length b8)) [] shares_net_holds.tab6 shares_net_holds.bits6 (fun hHeld HT_ HW_=>?_)
      generalize wr.drew = p2 at b0 HB hHeld ⊢
      refine pq 1 44 2 HT_ ?_
      refine pq 2 45 6 HT_ ?_
      refine tq 0 43 7 HT_ HW_ hHeld ?_
      refine oq 3 46 15 HT_ (fun K hK=>?_)
      refine gq Try.func104 #[.agg #[.slice d0 b1.length b6,.slice b7 b2.length b8],.int .i64 b3,.int .i64 a2] ?_
      with_reducible refine (shares_net_has.calls k2 _ _ b1 _ _ b2 b3 a2 true _ ?side1 ?side2 ?side3 ?side4 m5.out).mono ?_
      (case side1=>exact cB d3 HB)
      (case side2=>exact d4.out)
      (case side3=>exact cB d5 HB)
      (case side4=>exact d6.out)
      rintro e p3 ⟨rfl,hb⟩
      refine ⟨_,rfl,?_⟩
      replace b0:=kB b0 hb
      replace HB:=bB HB hb
      (try clear hb)
      refine hz hK (fun hHeld=>?_)
      clear hK K
      refine nq 46 ?_
      refine pq 4 47 31 HT_ ?_
      refine pq 6 49 95 HT_ ?_
      refine pq 7 50 223 HT_ ?_
      refine pq 10 53 1247 HT_ ?_
      refine pq 11 54 3295 HT_ ?_
      refine tq 5 48 3327 HT_ HW_ hHeld ?_
      refine tq 9 52 3839 HT_ HW_ hHeld ?_
      refine oq 8 51 4095 HT_ (fun K hK=>?_)
      refine gq Try.func108 #[.agg #[.slice d0 b1.length b6,.slice b7 b2.length b8],.slice A1 l1.length c1,.int .i64 b3] ?_
      with_reducible refine (shares_net_level.calls k2 _ _ b1 _ _ b2 _ _ l1 b3 e5 e6 _ ?side1 ?side2 ?side3 ?side4 ?side5 ?side6 n6.out).mono ?_
      (case side1=>exact cB d3 HB)
      (case side2=>exact d4.out)
      (case side3=>exact cB d5 HB)
      (case side4=>exact d6.out)
      (case side5=>exact cB i0 HB)
      (case side6=>exact i1.out)
      rintro e p4 ⟨rfl,hb⟩
      refine ⟨_,rfl,?_⟩
      replace b0:=kB b0 hb
      replace HB:=bB HB hb
      (try clear hb)
      refine hz hK (fun hHeld=>?_)
      clear hK K
      refine nq 51 ?_
      refine oq 12 55 8191 HT_ (fun K hK=>?_)
      refine gq Try.func108 #[.agg #[.slice d0 b1.length b6,.slice b7 b2.length b8],.slice A1 l1.length c1,.int .i64 a3] ?_
      with_reducible refine (shares_net_level.calls k2 _ _ b1 _ _ b2 _ _ l1 a3 e7 e8 _ ?side1 ?side2 ?side3 ?side4 ?side5 ?side6 n7.out).mono ?_
      (case side1=>exact cB d3 HB)
      (case side2=>exact d4.out)
      (case side3=>exact cB d5 HB)
      (case side4=>exact d6.out)
      (case side5=>exact cB i0 HB)
      (case side6=>exact i1.out)
      rintro e p5 ⟨rfl,hb⟩
      refine ⟨_,rfl,?_⟩
      replace b0:=kB b0 hb
      replace HB:=bB HB hb
      (try clear hb)
      refine hz hK (fun hHeld=>?_)
      clear hK K
      refine nq 55 ?_
      refine oq 13 56 16383 HT_ (fun K hK=>?_)
      refine gq Try.func85 #[.agg #[.int .i64 e5,.int .i64 e6],.agg #[.int .i64 e7,.int .i64 e8]] ?_
      with_reducible refine (shares_compare.calls k2 e5 e6 e7 e8 e0 _ n8.out).mono ?_
      rintro e p6 ⟨rfl,hb⟩
      refine ⟨_,rfl,?_⟩
      replace b0:=kB b0 hb
      replace HB:=bB HB hb
      (try clear hb)
      refine hz hK (fun hHeld=>?_)
      clear hK K
      refine nq 56 ?_
      refine pq 14 57 32767 HT_ ?_
      refine pq 15 58 65535 HT_ ?_
      refine done_ (done_of HT_.out (by kernel_rfl)) ?_
      try go_wp2
      go_ret
      exact ⟨rfl,bl HB⟩
     rw [if_neg h8] at H
     have j5:=decide_eq_false h8
     clear h8
     have H':=A_ H
     clear H
     try go_wp2
     replace b0:=kD b0
     replace HB:=bD HB
     refine st 16 (fun w'=>w'.cell? ⟨b5,0,none⟩ = some (.slice d0 b1.length b6) ∧ w'.cell? ⟨b5,1,none⟩ = some (.slice b7 b2.length b8)) [] shares_net_holds.tab6 shares_net_holds.bits6 (fun hHeld HT_ HW_=>?_)
     generalize wr.drew = p7 at b0 HB hHeld ⊢
     refine pq 1 44 2 HT_ ?_
     refine pq 2 45 6 HT_ ?_
     refine tq 0 43 7 HT_ HW_ hHeld ?_
     refine oq 3 46 15 HT_ (fun K hK=>?_)
     refine gq Try.func104 #[.agg #[.slice d0 b1.length b6,.slice b7 b2.length b8],.int .i64 b3,.int .i64 a2] ?_
     with_reducible refine (shares_net_has.calls k2 _ _ b1 _ _ b2 b3 a2 true _ ?side1 ?side2 ?side3 ?side4 m5.out).mono ?_
     (case side1=>exact cB d3 HB)
     (case side2=>exact d4.out)
     (case side3=>exact cB d5 HB)
     (case side4=>exact d6.out)
     rintro e p8 ⟨rfl,hb⟩
     refine ⟨_,rfl,?_⟩
     replace b0:=kB b0 hb
     replace HB:=bB HB hb
     (try clear hb)
     refine hz hK (fun hHeld=>?_)
     clear hK K
     refine nq 46 ?_
     refine pq 4 47 31 HT_ ?_
     refine pq 6 49 95 HT_ ?_
     refine pq 7 50 223 HT_ ?_
     refine pq 10 53 1247 HT_ ?_
     refine pq 11 54 3295 HT_ ?_
     refine tq 5 48 3327 HT_ HW_ hHeld ?_
     refine tq 9 52 3839 HT_ HW_ hHeld ?_
     refine oq 8 51 4095 HT_ (fun K hK=>?_)
     refine gq Try.func108 #[.agg #[.slice d0 b1.length b6,.slice b7 b2.length b8],.slice A1 l1.length c1,.int .i64 b3] ?_
     with_reducible refine (shares_net_level.calls k2 _ _ b1 _ _ b2 _ _ l1 b3 e5 e6 _ ?side1 ?side2 ?side3 ?side4 ?side5 ?side6 n6.out).mono ?_
     (case side1=>exact cB d3 HB)
     (case side2=>exact d4.out)
     (case side3=>exact cB d5 HB)
     (case side4=>exact d6.out)
     (case side5=>exact cB i0 HB)
     (case side6=>exact i1.out)
     rintro e p9 ⟨rfl,hb⟩
     refine ⟨_,rfl,?_⟩
     replace b0:=kB b0 hb
     replace HB:=bB HB hb
     (try clear hb)
     refine hz hK (fun hHeld=>?_)
     clear hK K
     refine nq 51 ?_
     refine oq 12 55 8191 HT_ (fun K hK=>?_)
     refine gq Try.func108 #[.agg #[.slice d0 b1.length b6,.slice b7 b2.length b8],.slice A1 l1.length c1,.int .i64 a3] ?_
     with_reducible refine (shares_net_level.calls k2 _ _ b1 _ _ b2 _ _ l1 a3 e7 e8 _ ?side1 ?side2 ?side3 ?side4 ?side5 ?side6 n7.out).mono ?_
     (case side1=>exact cB d3 HB)
     (case side2=>exact d4.out)
     (case side3=>exact cB d5 HB)
     (case side4=>exact d6.out)
     (case side5=>exact cB i0 HB)
     (case side6=>exact i1.out)
     rintro e q0 ⟨rfl,hb⟩
     refine ⟨_,rfl,?_⟩
     replace b0:=kB b0 hb
     replace HB:=bB HB hb
     (try clear hb)
     refine hz hK (fun hHeld=>?_)
     clear hK K
     refine nq 55 ?_
     refine oq 13 56 16383 HT_ (fun K hK=>?_)
     refine gq Try.func85 #[.agg #[.int .i64 e5,.int .i64 e6],.agg #[.int .i64 e7,.int .i64 e8]] ?_
     with_reducible refine (shares_compare.calls k2 e5 e6 e7 e8 e0 _ n8.out).mono ?_
     rintro e q1 ⟨rfl,hb⟩
     refine ⟨_,rfl,?_⟩
     replace b0:=kB b0 hb
     replace HB:=bB HB hb
     (try clear hb)
     refine hz hK (fun hHeld=>?_)
     clear hK K
     refine nq 56 ?_
     refine pq 14 57 32767 HT_ ?_
     refine pq 15 58 65535 HT_ ?_
     refine done_ (done_of HT_.out (by kernel_rfl)) ?_
     try go_wp2
     go_roundg k2
     case measure=>have:=j9.out;have:=m0.out;omega
     case rel=>exact ⟨(wrap64 (b3 + 1)),rfl,H',⟨by have:=j9.out;have:=m0.out;omega⟩,⟨by exact b0.out⟩,⟨bl HB⟩⟩
end Go.Proofs.Ytjohcjfmlhihbaa.G
namespace Go.Proofs.Ytjohcjfmlhihbaa.G
open Go.RowKit Go.Proofs.YtjohcjfmlhihbaaW.PrintWords Go.Proofs.YtjohcjfmlhihbaaW.PrintLast Go.Proofs.YtjohcjfmlhihbaaW.PrintMore
set_option maxHeartbeats 8000000
set_option maxRecDepth 100000
attribute [local go_sem] cond_true cond_false fld23_0 fld23_1 fld45_0 fld45_1 fld109_0 fld109_1 fld94_0 fld94_1 max2_int min2_int max_two min_two max_three min_three max_four min_four
attribute [local go_sem high] eqA23
def shares_net_held.l0:Nat → List (S23) → Int → Int → Int → List Int → List (S45) → Option (Int)
 | 0,_,_,_,_,_,_=>none
 | k + 1,x1,x2,h5,e0,b9,c0=>if e0 < h5 then ((shares_net_holds.f k b9 c0 x1 e0 x2).bind fun d0=>(if d0 = true then (some e0) else (shares_net_held.l0 k x1 x2 h5 (wrap64 (e0 + 1)) b9 c0))) else (some (-1))
def shares_net_held.f (k:Nat) (b1:List Int) (b2:List (S45)) (l1:List (S23)) (a2:Int):Option (Int):=shares_net_held.l0 k l1 a2 (b1.length:Int) 0 b1 b2
theorem shares_net_held.mono_l:∀ k,(∀ y0 y1 y2 y3 y4 y5,LeO (shares_net_held.l0 k y0 y1 y2 y3 y4 y5) (shares_net_held.l0 (k + 1) y0 y1 y2 y3 y4 y5))
 | 0=>fun _ _ _ _ _ _ r h=>by simp [shares_net_held.l0] at h
 | k + 1=>by
  have e5:=shares_net_held.mono_l k
  intro y0 y1 y2 y3 y4 y5
  unfold shares_net_held.l0
  repeat' first
  | (with_reducible first | exact e5 _ _ _ _ _ _ | exact shares_net_holds.mono _ _ _ _ _ _ | exact LeO.refl _ | exact LeO.none _ | refine LeO.ite ?_ ?_ | refine LeO.bind ?_ (fun _=>?_))
  | exact LeO.none _ | refine LeO.ite ?_ ?_ | refine LeO.bind ?_ (fun _=>?_)
theorem shares_net_held.mono:∀ a0 a1 a2 a3 k,LeO (shares_net_held.f k a0 a1 a2 a3) (shares_net_held.f (k + 1) a0 a1 a2 a3):=by
 intro a0 a1 a2 a3 k
 have e5:=shares_net_held.mono_l k
 unfold shares_net_held.f
 repeat' first
   | (with_reducible first | exact e5 _ _ _ _ _ _ | exact shares_net_holds.mono _ _ _ _ _ _ | exact LeO.refl _ | exact LeO.none _ | refine LeO.ite ?_ ?_ | refine LeO.bind ?_ (fun _=>?_))
   | exact LeO.none _ | refine LeO.ite ?_ ?_ | refine LeO.bind ?_ (fun _=>?_)
theorem shares_net_held.calls (k:Nat) (b5:Option Addr) (b6:Nat) (b1:List Int) (b7:Option Addr) (b8:Nat) (b2:List (S45)) (A1:Option Addr) (c1:Nat) (l1:List (S23)) (a2:Int) (r:Int) (w:World) (d1:Kd.C (Kd.int .i64) w b5 b1.length b1) (d2:b1.length ≤ b6) (d3:Kd.C k45 w b7 b2.length b2) (d4:b2.length ≤ b8) (h6:Kd.C k23 w A1 l1.length l1) (h7:l1.length ≤ c1) (h:shares_net_held.f k b1 b2 l1 a2 = some r) :
  Calls Try.prog 72 #[.agg #[.slice b5 b1.length b6,.slice b7 b2.length b8],.slice A1 l1.length c1,.int .i64 a2] w fun e w'=>e = .returned (.int .i64 r) ∧ Below w.heap.size w w':=by
 have h8:=Try.underlying109
 have d5:=A_ d1
 have d6:=A_ d2
 clear d1 d2
 have d7:=A_ d3
 have d8:=A_ d4
 clear d3 d4
 have h9:=A_ h6
 have i0:=A_ h7
 clear h6 h7
 have HB:=A_ (Below.refl w.heap.size w)
 have H:(shares_net_held.l0 k l1 a2 (b1.length:Int) 0 b1 b2) = some r:=h
 clear h
 have H':=A_ H
 clear H
 go_enter Try.func72,Try.ntmps72
 go_wp2_with (first | ((with_reducible refine gate_dst (N:=3) rfl ?_);refine bx 3 #[.slice b5 b1.length b6,.slice b7 b2.length b8] 109 ?_;intro b4 hg w4 hbox hb;have b0:=A_ hbox;have d9:=gw hg HB;have i1:=d9;replace HB:=bB HB hb;clear hb hbox hg;have e6:w4.cell? ⟨b4,0,none⟩ = some (.slice b5 b1.length b6):=cz b0 0;have e7:w4.cell? ⟨b4,1,none⟩ = some (.slice b7 b2.length b8):=cz b0 1;have e8:=blk_frozen b0.out 0;have e9:=blk_frozen b0.out 1))
 go_loopg [11] k (fun kq i4 w'=>∃ (b3:Int),i4 = .int .i64 b3 ∧ Aside0 (shares_net_held.l0 kq l1 a2 (b1.length:Int) b3 b1 b2 = some r) ∧ Aside0 (kq ≤ k) ∧ Aside0 (w'.heap[b4]? = some (.cells #[(.slice b5 b1.length b6),(.slice b7 b2.length b8)] 109 (0,0))) ∧ Aside0 (Below w.heap.size w w'))
 case atStart=>exact ⟨(0),rfl,H',⟨Nat.le_refl _⟩,⟨by (with_reducible repeat (first | refine blk_drewN ?_ _ | refine blk_drew ?_ | refine blk_alloc ?_ _));exact b0.out⟩,⟨bl HB⟩⟩
 case round =>
  clear H'
  obtain ⟨b3,rfl,HA,i2,b0,HB⟩:=hrel
  cases gk with
  | zero=>exact absurd HA.out (by simp [shares_net_held.l0])
  | succ k1 =>
   have H:=HA.out
   clear HA
   simp only [shares_net_held.l0] at H
   by_cases c6:b3 < (b1.length:Int)
   case neg =>
    rw [if_neg c6] at H
    have h0:=decide_eq_false c6
    clear c6
    obtain rfl:=Option.some.inj H
    go_wp2
    go_ret
    exact ⟨rfl,bl HB⟩
   rw [if_pos c6] at H
   have h0:=decide_eq_true c6
   clear c6
   replace H:=Option.bind_eq_some_iff.mp H
   obtain ⟨d0,i3,H⟩:=H
   replace H:(if d0 = true then (some b3) else (shares_net_held.l0 k1 l1 a2 (b1.length:Int) (wrap64 (b3 + 1)) b1 b2)) = some r:=H
   have A7:=A_ i3
   clear i3
   by_cases c8:d0 = true
   ·subst c8
    rw [if_pos rfl] at H
    obtain rfl:=Option.some.inj H
    have h1:wr.cell? ⟨b4,0,none⟩ = some (.slice b5 b1.length b6):=cz b0 0
    have h2:wr.cell? ⟨b4,1,none⟩ = some (.slice b7 b2.length b8):=cz b0 1
    have h3:=blk_frozen b0.out 0
    have h4:=blk_frozen b0.out 1
    go_wp2_with (first | ((with_reducible refine gate_callee (f:=76) rfl ?_);refine gL (some 18) Try.func76 #[.agg #[.slice b5 b1.length b6,.slice b7 b2.length b8],.slice A1 l1.length c1,.int .i64 b3,.int .i64 a2] ?_;(with_reducible refine (shares_net_holds.calls k1 _ _ b1 _ _ b2 _ _ l1 b3 a2 true _ ?side1 ?side2 ?side3 ?side4 ?side5 ?side6 A7.out).mono ?_);(case side1=>exact cB d5 HB);(case side2=>exact d6.out);(case side3=>exact cB d7 HB);(case side4=>exact d8.out);(case side5=>exact cB h9 HB);(case side6=>exact i0.out);rintro e i5 ⟨rfl,hb⟩;refine ⟨_,rfl,?_⟩;replace b0:=kB b0 hb;replace HB:=bB HB hb;(try clear hb)))
    go_ret
    exact ⟨rfl,bl HB⟩
   replace c8:=Bool.eq_false_iff.mpr c8
   subst c8
   rw [if_neg (show ¬ (false = true) by decide)] at H
   have H':=A_ H
   clear H
   have e1:wr.cell? ⟨b4,0,none⟩ = some (.slice b5 b1.length b6):=cz b0 0
   have e2:wr.cell? ⟨b4,1,none⟩ = some (.slice b7 b2.length b8):=cz b0 1
   have e3:=blk_frozen b0.out 0
   have e4:=blk_frozen b0.out 1
   go_wp2_with (first | ((with_reducible refine gate_callee (f:=76) rfl ?_);refine gL (some 18) Try.func76 #[.agg #[.slice b5 b1.length b6,.slice b7 b2.length b8],.slice A1 l1.length c1,.int .i64 b3,.int .i64 a2] ?_;(with_reducible refine (shares_net_holds.calls k1 _ _ b1 _ _ b2 _ _ l1 b3 a2 false _ ?side1 ?side2 ?side3 ?side4 ?side5 ?side6 A7.out).mono ?_);(case side1=>exact cB d5 HB);(case side2=>exact d6.out);(case side3=>exact cB d7 HB);(case side4=>exact d8.out);(case side5=>exact cB h9 HB);(case side6=>exact i0.out);rintro e i6 ⟨rfl,hb⟩;refine ⟨_,rfl,?_⟩;replace b0:=kB b0 hb;replace HB:=bB HB hb;(try clear hb)))
   go_roundg k1
   case measure=>have:=i2.out;omega
   case rel=>exact ⟨(wrap64 (b3 + 1)),rfl,H',⟨by have:=i2.out;omega⟩,⟨by (with_reducible repeat (first | refine blk_drewN ?_ _ | refine blk_drew ?_ | refine blk_alloc ?_ _));exact b0.out⟩,⟨bl HB⟩⟩
end Go.Proofs.Ytjohcjfmlhihbaa.G
namespace Go.Proofs.Ytjohcjfmlhihbaa.G
open Go.RowKit Go.Proofs.YtjohcjfmlhihbaaW.PrintWords Go.Proofs.YtjohcjfmlhihbaaW.PrintLast Go.Proofs.YtjohcjfmlhihbaaW.PrintMore
set_option maxHeartbeats 8000000
set_option maxRecDepth 100000
attribute [local go_sem] cond_true cond_false fld23_0 fld23_1 fld45_0 fld45_1 fld109_0 fld109_1 fld94_0 fld94_1 max2_int min2_int max_two min_two max_three min_three max_four min_four
def numnahref07_Load.l0:Nat → List (S45) → List (S23) → Int → Int → Int → Int → Option (Int × Int)
 | 0,_,_,_,_,_,_=>none
 | k + 1,x0,x1,x2,x8,d4,d5=>if x8 < (x0.length:Int) then (if 0 ≤ x8 then ((numnahref07_Has.f k ((rd_T45 x0 x8).f0) ((rd_T45 x0 x8).f1) x2).bind fun e8=>(if e8 = true then (if x8 < (x1.length:Int) then ((numnahref07_Add.f k d4 d5 ((rd_T23 x1 x8).f0) ((rd_T23 x1 x8).f1)).bind fun d8=>(numnahref07_Load.l0 k x0 x1 x2 (wrap64 (x8 + 1)) d8.1 d8.2)) else (none)) else (numnahref07_Load.l0 k x0 x1 x2 (wrap64 (x8 + 1)) d4 d5))) else (none)) else (some (d4,d5))
def numnahref07_Load.f (k:Nat) (l0:List (S45)) (l1:List (S23)) (a2:Int):Option (Int × Int):=(numnahref07_Whole.f 0).bind fun d9=>(numnahref07_Load.l0 k l0 l1 a2 0 d9.1 d9.2)
theorem numnahref07_Load.mono_l:∀ k,(∀ y0 y1 y2 y3 y4 y5,LeO (numnahref07_Load.l0 k y0 y1 y2 y3 y4 y5) (numnahref07_Load.l0 (k + 1) y0 y1 y2 y3 y4 y5))
 | 0=>fun _ _ _ _ _ _ r h=>by simp [numnahref07_Load.l0] at h
 | k + 1=>by
  have l6:=numnahref07_Load.mono_l k
  intro y0 y1 y2 y3 y4 y5
  unfold numnahref07_Load.l0
  repeat' first
  | (with_reducible first | exact l6 _ _ _ _ _ _ | exact numnahref07_Add.mono _ _ _ _ _ | exact numnahref07_Has.mono _ _ _ _ | exact LeO.refl _ | exact LeO.none _ | refine LeO.ite ?_ ?_ | refine LeO.bind ?_ (fun _=>?_))
  | exact LeO.none _ | refine LeO.ite ?_ ?_ | refine LeO.bind ?_ (fun _=>?_)
theorem numnahref07_Load.mono:∀ a0 a1 a2 k,LeO (numnahref07_Load.f k a0 a1 a2) (numnahref07_Load.f (k + 1) a0 a1 a2):=by
 intro a0 a1 a2 k
 have l6:=numnahref07_Load.mono_l k
 unfold numnahref07_Load.f
 repeat' first
   | (with_reducible first | exact l6 _ _ _ _ _ _ | exact numnahref07_Add.mono _ _ _ _ _ | exact numnahref07_Has.mono _ _ _ _ | exact LeO.refl _ | exact LeO.none _ | refine LeO.ite ?_ ?_ | refine LeO.bind ?_ (fun _=>?_))
   | exact LeO.none _ | refine LeO.ite ?_ ?_ | refine LeO.bind ?_ (fun _=>?_)
theorem numnahref07_Load.calls (k:Nat) (A0:Option Addr) (c0:Nat) (l0:List (S45)) (A1:Option Addr) (c1:Nat) (l1:List (S23)) (a2:Int) (r1:Int) (r2:Int) (w:World) (m2:Kd.C k45 w A0 l0.length l0) (m3:l0.length ≤ c0) (m4:Kd.C k23 w A1 l1.length l1) (m5:l1.length ≤ c1) (h:numnahref07_Load.f k l0 l1 a2 = some (r1,r2)) :
  Calls Try.prog 60 #[.slice A0 l0.length c0,.slice A1 l1.length c1,.int .i64 a2] w fun e w'=>e = .returned (.agg #[.int .i64 r1,.int .i64 r2]) ∧ Below w.heap.size w w':=by
 have n9:=Try.underlying23
 have o0:=Try.underlying45
 have m6:=A_ m2
 have o8:=A_ m3
 clear m2 m3
 have o1:=A_ m4
 have o9:=A_ m5
 clear m4 m5
 have HB:=A_ (Below.refl w.heap.size w)
 have H:((numnahref07_Whole.f 0).bind fun d9=>(numnahref07_Load.l0 k l0 l1 a2 0 d9.1 d9.2)) = some (r1,r2):=h
 clear h
 replace H:=Option.bind_eq_some_iff.mp H
 obtain ⟨⟨e9,h4⟩,A40,H⟩:=H
 dsimp only at H
 have A4:=A_ A40
 clear A40
 have H':=A_ H
 clear H
 go_enter Try.func60,Try.ntmps60
 go_wp2_with (first | ((with_reducible refine gate_dst (N:=6) rfl ?_);refine bx 6 #[.int .i64 0,.int .i64 0] 23 ?_;intro e4 hg w5 hbox hb;have b4:=A_ hbox;have h5:=gw hg HB;have m7:=h5;replace HB:=bB HB hb;clear hb hbox hg) | ((with_reducible refine gate_callee (f:=23) rfl ?_);refine gL (some 9) Try.func23 #[.int .i64 0] ?_;(with_reducible refine (numnahref07_Whole.calls 0 e9 h4 _ A4.out).mono ?_);rintro e w6 ⟨rfl,hb⟩;refine ⟨_,rfl,?_⟩;replace b4:=kB b4 hb;replace HB:=bB HB hb;(try clear hb)) | ((with_reducible refine gate_dst (N:=7) rfl ?_);refine bx 7 #[.int .i64 0,.int .i64 0] 23 ?_;intro b7 hg w7 hbox hb;have b2:=A_ hbox;have h6:=gw hg HB;have m8:=h6;have b5:=nl hg b4;have b6:=ng hg b4;replace b4:=kB b4 hb;replace HB:=bB HB hb;clear hb hbox hg;have o2:=b6.out;have o3:=b5.out;have l7:w7.cell? ⟨b7,0,none⟩ = some (.int .i64 0):=cz b2 0;have l8:w7.cell? ⟨b7,1,none⟩ = some (.int .i64 0):=cz b2 1;have l9:=blk_frozen b2.out 0;have m0:=blk_frozen b2.out 1))
 go_loopg [8] k (fun kq v8 w'=>∃ (b3:Int) (b0:Int) (b1:Int),v8 = .int .i64 b3 ∧ Aside0 (numnahref07_Load.l0 kq l0 l1 a2 b3 b0 b1 = some (r1,r2)) ∧ Aside0 (kq ≤ k) ∧ Aside0 (w'.heap[e4]? = some (.cells #[.int .i64 0,.int .i64 0] 23 (0,0))) ∧ Aside0 (w'.heap[b7]? = some (.cells #[.int .i64 b0,.int .i64 b1] 23 (0,0))) ∧ Aside0 (Below w.heap.size w w'))
 case atStart=>exact ⟨(0),(e9),(h4),rf_,H',⟨Nat.le_refl _⟩,⟨bf2_ b5 b5 b4⟩,⟨by (with_reducible repeat (first | refine blk_drewN ?_ _ | refine blk_drew ?_ | refine blk_alloc ?_ _));refine blk_put (cs:=#[.int .i64 e9,.int .i64 0]) ?_ 1 _ rfl;(with_reducible repeat (first | refine blk_drewN ?_ _ | refine blk_drew ?_ | refine blk_alloc ?_ _));refine blk_put (cs:=#[.int .i64 0,.int .i64 0]) ?_ 0 _ rfl;(with_reducible repeat (first | refine blk_drewN ?_ _ | refine blk_drew ?_ | refine blk_alloc ?_ _));exact b2.out⟩,⟨bl HB⟩⟩
 case round =>
  clear H'
  obtain ⟨b3,b0,b1,rfl,HA,i1,b4,b2,HB⟩:=hrel
  cases gk with
  | zero=>exact absurd HA.out (by simp [numnahref07_Load.l0])
  | succ k1 =>
   have H:=HA.out
   clear HA
   simp only [numnahref07_Load.l0] at H
   by_cases c10:b3 < (l0.length:Int)
   case neg =>
    rw [if_neg c10] at H
    have h7:=decide_eq_false c10
    clear c10
    simp only [Option.some.injEq,Prod.mk.injEq] at H
    obtain ⟨rfl,rfl⟩:=H
    have m9:=b6.out
    have n0:=b5.out
    have i2:wr.cell? ⟨b7,0,none⟩ = some (.int .i64 b0):=cz b2 0
    have i3:wr.cell? ⟨b7,1,none⟩ = some (.int .i64 b1):=cz b2 1
    have i4:=blk_frozen b2.out 0
    have i5:=blk_frozen b2.out 1
    have i6:wr.cell? ⟨e4,0,none⟩ = some (.int .i64 0):=cz b4 0
    have i7:wr.cell? ⟨e4,1,none⟩ = some (.int .i64 0):=cz b4 1
    have i8:=blk_frozen b4.out 0
    have i9:=blk_frozen b4.out 1
    go_wp2
    refine bodyPost_ret (results_cell_row rfl _ _ e4 23 #[.int .i64 b0,.int .i64 b1] (0,0) _ rfl (by (with_reducible repeat (first | refine blk_drewN ?_ _ | refine blk_drew ?_ | refine blk_alloc ?_ _));refine blk_put (cs:=#[.int .i64 b0,.int .i64 0]) ?_ 1 _ rfl;(with_reducible repeat (first | refine blk_drewN ?_ _ | refine blk_drew ?_ | refine blk_alloc ?_ _));refine blk_put (cs:=#[.int .i64 0,.int .i64 0]) ?_ 0 _ rfl;(with_reducible repeat (first | refine blk_drewN ?_ _ | refine blk_drew ?_ | refine blk_alloc ?_ _));exact b4.out) Try.underlying23 rfl (by kernel_rfl)) rfl ?_
    exact ⟨by first | rfl | (simp [errW_none,errW_some] <;> rfl) | (simp [*,errW_none,errW_some] <;> rfl),bl HB⟩
   rw [if_pos c10] at H
   have h7:=decide_eq_true c10
   clear c10
   replace H:=gd H
   obtain ⟨n1,H⟩:=H
   have n2:=decide_eq_true n1
   clear n1
   replace H:=Option.bind_eq_some_iff.mp H
   obtain ⟨e8,h8,H⟩:=H
   replace H:(if e8 = true then (if b3 < (l1.length:Int) then ((numnahref07_Add.f k1 b0 b1 ((rd_T23 l1 b3).f0) ((rd_T23 l1 b3).f1)).bind fun d8=>(numnahref07_Load.l0 k1 l0 l1 a2 (wrap64 (b3 + 1)) d8.1 d8.2)) else (none)) else (numnahref07_Load.l0 k1 l0 l1 a2 (wrap64 (b3 + 1)) b0 b1)) = some (r1,r2):=H
   have n3:=A_ h8
   clear h8
   by_cases j5:e8 = true
   case neg =>
    replace j5:=Bool.eq_false_iff.mpr j5
    subst j5
    rw [if_neg (show ¬ (false = true) by decide)] at H
    have H':=A_ H
    clear H
    have e0:0 ≤ (b3:Int):=oa_
    have e1:b3 < (l0.length:Int):=oa_
    obtain ⟨h9,e2,e3,h0,b8,b9,d0,d1⟩:=at_T45 m6.out b3 e0 e1
    cases h0
    replace b8:=cT HB b8
    replace b9:=cT HB b9
    have d6:=A_ d1
    have d7:=A_ d0
    clear d1 d0
    replace e0:=eq_true e0
    replace e1:=eq_true e1
    go_wp2_with (first | ((with_reducible refine gate_callee (f:=77) rfl ?_);refine gL (some 21) Try.func77 #[.agg #[.int .i64 ((rd_T45 l0 b3).f0),.slice e2 ((rd_T45 l0 b3).f1).length e3],.int .i64 a2] ?_;(with_reducible refine (numnahref07_Has.calls k1 ((rd_T45 l0 b3).f0) _ _ ((rd_T45 l0 b3).f1) a2 false _ ?side1 ?side2 n3.out).mono ?_);(case side1=>exact cB d6 HB);(case side2=>exact d7.out);rintro e p0 ⟨rfl,hb⟩;refine ⟨_,rfl,?_⟩;replace b4:=kB b4 hb;replace b2:=kB b2 hb;replace HB:=bB HB hb;(try clear hb)))
    go_roundg k1
    case measure=>have:=i1.out;omega
    case rel=>exact ⟨(wrap64 (b3 + 1)),(b0),(b1),rf_,H',⟨by have:=i1.out;omega⟩,⟨dr_ b4⟩,⟨dr_ b2⟩,⟨bl HB⟩⟩
   subst j5
   rw [if_pos rfl] at H
   replace H:=gd H
   obtain ⟨n4,H⟩:=H
   have n5:=decide_eq_true n4
   clear n4
   replace H:=Option.bind_eq_some_iff.mp H
   obtain ⟨⟨h1,i0⟩,A150,H⟩:=H
   dsimp only at H
   have o4:=A_ A150
   clear A150
   have H':=A_ H
   clear H
   have e0:0 ≤ (b3:Int):=oa_
   have e1:b3 < (l0.length:Int):=oa_
   obtain ⟨h9,e2,e3,h0,b8,b9,d0,d1⟩:=at_T45 m6.out b3 e0 e1
   cases h0
   replace b8:=cT HB b8
   replace b9:=cT HB b9
   have d6:=A_ d1
   have d7:=A_ d0
   clear d1 d0
   replace e0:=eq_true e0
   replace e1:=eq_true e1
   try go_wp2_with (first | ((with_reducible refine gate_callee (f:=77) rfl ?_);refine gL (some 21) Try.func77 #[.agg #[.int .i64 ((rd_T45 l0 b3).f0),.slice e2 ((rd_T45 l0 b3).f1).length e3],.int .i64 a2] ?_;(with_reducible refine (numnahref07_Has.calls k1 ((rd_T45 l0 b3).f0) _ _ ((rd_T45 l0 b3).f1) a2 true _ ?side1 ?side2 n3.out).mono ?_);(case side1=>exact cB d6 HB);(case side2=>exact d7.out);rintro e o5 ⟨rfl,hb⟩;refine ⟨_,rfl,?_⟩;replace b4:=kB b4 hb;replace b2:=kB b2 hb;replace HB:=bB HB hb;(try clear hb)))
   replace b4:=kD b4
   replace b2:=kD b2
   replace HB:=bD HB
   have h2:0 ≤ (b3:Int):=oa_
   have h3:b3 < (l1.length:Int):=oa_
   obtain ⟨e7,m1,d2,d3⟩:=at_T23 o1.out b3 h2 h3
   have e5:=d3
   have e6:=d2
   cases m1
   replace d2:=cT HB d2
   replace d3:=cT HB d3
   replace h2:=eq_true h2
   replace h3:=eq_true h3
   refine start_ (n:=7) (S:=fun w'=>w'.cell? ⟨b7,0,none⟩ = some (.int .i64 b0) ∧ w'.cell? ⟨b7,1,none⟩ = some (.int .i64 b1) ∧ w'.cell? (e7.add ((b3).toNat * 2)) = some (.int .i64 ((rd_T23 l1 b3).f0)) ∧ w'.cell? ⟨(e7.add ((b3).toNat * 2)).block,(e7.add ((b3).toNat * 2)).off + 1,none⟩ = some (.int .i64 ((rd_T23 l1 b3).f1))) (ds:=[6]) (ba 7 0) (by kernel_rfl) rfl rfl ⟨cz b2 0,cz b2 1,(cT HB e6),(cT HB e5)⟩ (fun hHeld=>?_)
   generalize o5.drew = p1 at b4 b2 HB d2 d3 hHeld ⊢
   refine pr 1 23 2 ?_
   refine pr 2 24 6 ?_
   refine pr 3 25 14 ?_
   refine tr 0 22 15 hHeld ?_
   refine tr 4 26 31 hHeld ?_
   refine os 5 27 63 (fun K hK=>?_)
   refine gq Try.func28 #[.agg #[.int .i64 b0,.int .i64 b1],.agg #[.int .i64 ((rd_T23 l1 b3).f0),.int .i64 ((rd_T23 l1 b3).f1)]] ?_
   with_reducible refine (numnahref07_Add.calls k1 b0 b1 ((rd_T23 l1 b3).f0) ((rd_T23 l1 b3).f1) h1 i0 _ o4.out).mono ?_
   rintro e n6 ⟨rfl,hb⟩
   refine ⟨_,rfl,?_⟩
   replace b4:=kB b4 hb
   replace b2:=kB b2 hb
   replace HB:=bB HB hb
   (try clear hb)
   refine hK.out _ _ ⟨cz b2 0,cz b2 1,(cT HB e6),(cT HB e5)⟩ (fun hHeld=>?_)
   clear hK K
   refine nq 27 ?_
   refine last_ (i:=6) (N:=none) (ba 7 127) rfl rfl (by kernel_rfl) (by decide) (fun K hK=>?_)
   have o6:n6.cell? ⟨b7,0,none⟩ = some (.int .i64 b0):=cz b2 0
   have n7:=blk_frozen b2.out 0
   have j7:=b5.out
   have j8:=b6.out
   have o7:n6.cell? ⟨b7,1,none⟩ = some (.int .i64 b1):=cz b2 1
   have n8:=blk_frozen b2.out 1
   have j9:=b5.out
   have l5:=b6.out
   refine skip_ (w1:=?_) (by rfl) rfl ?_ ?_
   rotate_left
   ·go_simp
    rfl
   refine hK.out _ _ ?_
   clear hK K
   refine done_ (by kernel_rfl) ?_
   try go_wp2
   go_roundg k1
   case measure=>have:=i1.out;omega
   case rel=>exact ⟨(wrap64 (b3 + 1)),(h1),(i0),rf_,H',⟨by have:=i1.out;omega⟩,⟨bf2_ b5 b5 b4⟩,⟨by (with_reducible repeat (first | refine blk_drewN ?_ _ | refine blk_drew ?_ | refine blk_alloc ?_ _));refine blk_put (cs:=#[.int .i64 h1,.int .i64 b1]) ?_ 1 _ rfl;(with_reducible repeat (first | refine blk_drewN ?_ _ | refine blk_drew ?_ | refine blk_alloc ?_ _));refine blk_put (cs:=#[.int .i64 b0,.int .i64 b1]) ?_ 0 _ rfl;(with_reducible repeat (first | refine blk_drewN ?_ _ | refine blk_drew ?_ | refine blk_alloc ?_ _));exact b2.out⟩,⟨bl HB⟩⟩
end Go.Proofs.Ytjohcjfmlhihbaa.G
namespace Go.Proofs.Ytjohcjfmlhihbaa.G
open Go.RowKit Go.Proofs.YtjohcjfmlhihbaaW.PrintWords Go.Proofs.YtjohcjfmlhihbaaW.PrintLast Go.Proofs.YtjohcjfmlhihbaaW.PrintMore
set_option maxHeartbeats 8000000
set_option maxRecDepth 100000
attribute [local go_sem] cond_true cond_false fld23_0 fld23_1 fld45_0 fld45_1 fld109_0 fld109_1 fld94_0 fld94_1 max2_int min2_int max_two min_two max_three min_three max_four min_four   -- for this text's walks alone
def numnahref07_level.f (k:Nat) (b3:Int) (b6:List Int) (b4:Int) (b5:Int):Option (Int × Int):=(numnahref07_Reduced.f k b4 (wrap64 (b5 * b3))).bind fun b7=>(some (b7.1,b7.2))
theorem numnahref07_level.mono:∀ a0 a1 a2 a3 k,LeO (numnahref07_level.f k a0 a1 a2 a3) (numnahref07_level.f (k + 1) a0 a1 a2 a3):=by
 intro a0 a1 a2 a3 k
 unfold numnahref07_level.f
 repeat' first
   | (with_reducible exact numnahref07_Reduced.mono _ _ _)
   | (with_reducible exact LeO.refl _)
   | (with_reducible exact LeO.none _)
   | (with_reducible refine LeO.ite ?_ ?_)
   | (with_reducible refine LeO.bind ?_ (fun _=>?_))
   | exact numnahref07_Reduced.mono _ _ _
   | exact LeO.none _
   | refine LeO.ite ?_ ?_
   | refine LeO.bind ?_ (fun _=>?_)
theorem numnahref07_level.calls (k:Nat) (b3:Int) (d3:Option Addr) (d4:Nat) (b6:List Int) (b4:Int) (b5:Int) (r1:Int) (r2:Int) (w:World) (d6:Kd.C (Kd.int .i64) w d3 b6.length b6) (d7:b6.length ≤ d4) (h:numnahref07_level.f k b3 b6 b4 b5 = some (r1,r2)) :
  Calls Try.prog 78 #[.agg #[.int .i64 b3,.slice d3 b6.length d4],.agg #[.int .i64 b4,.int .i64 b5]] w fun e w'=>e = .returned (.agg #[.int .i64 r1,.int .i64 r2]) ∧ Below w.heap.size w w':=by
 have i4:=Try.underlying45
 have i5:=Try.underlying23
 have h9:=A_ d6
 have i0:=A_ d7
 clear d6 d7
 have HB:=A_ (Below.refl w.heap.size w)
 have H:((numnahref07_Reduced.f k b4 (wrap64 (b5 * b3))).bind fun b7=>(some (b7.1,b7.2))) = some (r1,r2):=h
 clear h
 replace H:=Option.bind_eq_some_iff.mp H
 obtain ⟨⟨d5,e0⟩,A30,H⟩:=H
 replace H:(some (d5,e0)) = some (r1,r2):=H
 have A3:=A_ A30
 clear A30
 simp only [Option.some.injEq,Prod.mk.injEq] at H
 obtain ⟨rfl,rfl⟩:=H
 go_enter Try.func78,Try.ntmps78
 go_wp2_with (first | ((with_reducible refine gate_dst (N:=2) rfl ?_);refine box_event ?hg (N:=2) ?hd (cs:=#[.int .i64 b3,.slice d3 b6.length d4]) (t:=45) ?hr ?_;(case hd=>rfl);(case hg=>rfl);(case hr=>first | (go_simp;done) | (go_simp;rfl));intro d8 hg w4 hbox hb;have b0:=A_ hbox;have e1:=gw hg HB;have e2:=e1;replace HB:=bB HB hb;clear hb hbox hg) | ((with_reducible refine gate_dst (N:=3) rfl ?_);refine box_event ?hg (N:=3) ?hd (cs:=#[.int .i64 b4,.int .i64 b5]) (t:=23) ?hr ?_;(case hd=>rfl);(case hg=>rfl);(case hr=>first | (go_simp;done) | (go_simp;rfl));intro d9 hg w5 hbox hb;have b1:=A_ hbox;have e3:=gw hg HB;have e4:=e3;have b8:=nl hg b0;have b9:=ng hg b0;replace b0:=kB b0 hb;replace HB:=bB HB hb;clear hb hbox hg) | ((with_reducible refine gate_dst (N:=4) rfl ?_);refine box_event ?hg (N:=4) ?hd (cs:=#[.int .i64 0,.int .i64 0]) (t:=23) ?hr ?_;(case hd=>rfl);(case hg=>rfl);(case hr=>first | (go_simp;done) | (go_simp;rfl));intro d2 hg w6 hbox hb;have b2:=A_ hbox;have e5:=gw hg HB;have e6:=e5;have c0:=nl hg b0;have c1:=ng hg b0;have d0:=nl hg b1;have d1:=ng hg b1;replace b0:=kB b0 hb;replace b1:=kB b1 hb;replace HB:=bB HB hb;clear hb hbox hg;have i6:=b9.out;have i7:=b8.out;have i8:=d0.out;have i9:=d1.out;have h5:w6.cell? ⟨d9,0,none⟩ = some (.int .i64 b4):=cz b1 0;have h6:w6.cell? ⟨d9,1,none⟩ = some (.int .i64 b5):=cz b1 1;have h7:=blk_frozen b1.out 0;have h8:=blk_frozen b1.out 1;have i1:=c0.out;have i2:=c1.out;have e7:w6.cell? ⟨d8,0,none⟩ = some (.int .i64 b3):=cz b0 0;have e8:w6.cell? ⟨d8,1,none⟩ = some (.slice d3 b6.length d4):=cz b0 1;have e9:=blk_frozen b0.out 0;have h0:=blk_frozen b0.out 1) | ((with_reducible refine gate_callee (f:=34) rfl ?_);refine goesL_ (some 12) rfl rfl Try.func34 (by kernel_rfl) rfl #[.int .i64 b4,.int .i64 (wrap64 (b5 * b3))] rfl (by (try simp only [List.map_toArray,List.map_cons,List.map_nil]);first | done | rfl | (simp only [List.length_drop,List.length_take];rfl)) ?_;(with_reducible refine (numnahref07_Reduced.calls k b4 (wrap64 (b5 * b3)) d5 e0 _ A3.out).mono ?_);rintro e i3 ⟨rfl,hb⟩;refine ⟨_,rfl,?_⟩;replace b0:=kB b0 hb;replace b1:=kB b1 hb;replace b2:=kB b2 hb;replace HB:=bB HB hb;(try clear hb);have h1:i3.cell? ⟨d2,0,none⟩ = some (.int .i64 0):=cz b2 0;have h2:i3.cell? ⟨d2,1,none⟩ = some (.int .i64 0):=cz b2 1;have h3:=blk_frozen b2.out 0;have h4:=blk_frozen b2.out 1))
 refine bodyPost_ret (results_cell_row rfl _ _ d2 23 #[.int .i64 d5,.int .i64 e0] (0,0) _ rfl (by (with_reducible repeat (first | refine blk_drewN ?_ _ | refine blk_drew ?_ | refine blk_alloc ?_ _));refine blk_put (cs:=#[.int .i64 d5,.int .i64 0]) ?_ 1 _ rfl;(with_reducible repeat (first | refine blk_drewN ?_ _ | refine blk_drew ?_ | refine blk_alloc ?_ _));refine blk_put (cs:=#[.int .i64 0,.int .i64 0]) ?_ 0 _ rfl;(with_reducible repeat (first | refine blk_drewN ?_ _ | refine blk_drew ?_ | refine blk_alloc ?_ _));exact b2.out) Try.underlying23 rfl (by kernel_rfl)) rfl ?_
 exact ⟨by first | rfl | (simp [errW_none,errW_some] <;> rfl) | (simp [*,errW_none,errW_some] <;> rfl),by repeat (first | (with_reducible first | exact HB.out | apply below_alloc | apply pw_below_drewN | apply below_drew1 | refine below_set ?_ e2.out | refine below_set ?_ e4.out | refine below_set ?_ e6.out) | exact HB.out)⟩
end Go.Proofs.Ytjohcjfmlhihbaa.G
namespace Go.Proofs.Ytjohcjfmlhihbaa.G
open Go.RowKit Go.Proofs.YtjohcjfmlhihbaaW.PrintWords Go.Proofs.YtjohcjfmlhihbaaW.PrintLast Go.Proofs.YtjohcjfmlhihbaaW.PrintMore
set_option maxHeartbeats 8000000
set_option maxRecDepth 100000
attribute [local go_sem] cond_true cond_false fld23_0 fld23_1 fld45_0 fld45_1 fld109_0 fld109_1 fld94_0 fld94_1 max2_int min2_int max_two min_two max_three min_three max_four min_four
attribute [local go_sem high] eqA23
mutual
def numnahref07_Holds.j0:Nat → List (S45) → List (S23) → Int → Int → Bool → Option (Bool)
 | 0,_,_,_,_,_=>none
 | k + 1,x1,x2,x3,x4,x40=>if x40 = true then (some false) else (numnahref07_Holds.l0 k x1 x2 x3 x4 0)
def numnahref07_Holds.l0:Nat → List (S45) → List (S23) → Int → Int → Int → Option (Bool)
 | 0,_,_,_,_,_=>none
 | k + 1,x1,x2,x3,x4,n8=>if n8 < (x1.length:Int) then (if 0 ≤ n8 then ((numnahref07_Has.f k ((rd_T45 x1 n8).f0) ((rd_T45 x1 n8).f1) x3).bind fun o5=>(if o5 = true then (if 0 ≤ x4 then (if x4 < (x1.length:Int) then (if x4 < (x2.length:Int) then ((numnahref07_level.f k ((rd_T45 x1 x4).f0) ((rd_T45 x1 x4).f1) ((rd_T23 x2 x4).f0) ((rd_T23 x2 x4).f1)).bind fun l7=>(if n8 < (x2.length:Int) then ((numnahref07_level.f k ((rd_T45 x1 n8).f0) ((rd_T45 x1 n8).f1) ((rd_T23 x2 n8).f0) ((rd_T23 x2 n8).f1)).bind fun l8=>((numnahref07_Less.f l7.1 l7.2 l8.1 l8.2).bind fun n2=>(if n2 = true then (some false) else (numnahref07_Holds.l0 k x1 x2 x3 x4 (wrap64 (n8 + 1)))))) else (none))) else (none)) else (none)) else (none)) else (numnahref07_Holds.l0 k x1 x2 x3 x4 (wrap64 (n8 + 1))))) else (none)) else (some true)
end
def numnahref07_Holds.f (k:Nat) (l0:List Int) (l1:List (S45)) (l2:List (S23)) (a3:Int) (a4:Int):Option (Bool):=if a3 < 0 then (numnahref07_Holds.j0 k l1 l2 a3 a4 true) else (if a3 ≥ (l0.length:Int) then (numnahref07_Holds.j0 k l1 l2 a3 a4 true) else (if 0 ≤ a4 then (if a4 < (l1.length:Int) then ((numnahref07_Has.f k ((rd_T45 l1 a4).f0) ((rd_T45 l1 a4).f1) a3).bind fun n3=>(if n3 = true then ((numnahref07_Load.f k l1 l2 a3).bind fun i2=>(if 0 ≤ a3 then (if a3 < (l0.length:Int) then ((numnahref07_Whole.f (rd l0 a3)).bind fun i3=>(numnahref07_Holds.j0 k l1 l2 a3 a4 (!(i2.1 == i3.1) || (!(i2.2 == i3.2))))) else (none)) else (none))) else (numnahref07_Holds.j0 k l1 l2 a3 a4 true))) else (none)) else (none)))
theorem numnahref07_Holds.mono_l:∀ k,(∀ y0 y1 y2 y3 y4,LeO (numnahref07_Holds.j0 k y0 y1 y2 y3 y4) (numnahref07_Holds.j0 (k + 1) y0 y1 y2 y3 y4)) ∧ (∀ y0 y1 y2 y3 y4,LeO (numnahref07_Holds.l0 k y0 y1 y2 y3 y4) (numnahref07_Holds.l0 (k + 1) y0 y1 y2 y3 y4))
 | 0=>⟨fun _ _ _ _ _ r h=>by simp [numnahref07_Holds.j0] at h,fun _ _ _ _ _ r h=>by simp [numnahref07_Holds.l0] at h⟩
 | k + 1=>by
  obtain ⟨q4,q5⟩:=numnahref07_Holds.mono_l k
  refine ⟨?_,?_⟩
  ·intro y0 y1 y2 y3 y4
   unfold numnahref07_Holds.j0
   repeat' first
   | (with_reducible first | exact q4 _ _ _ _ _ | exact q5 _ _ _ _ _ | exact numnahref07_Has.mono _ _ _ _ | exact numnahref07_Load.mono _ _ _ _ | exact numnahref07_level.mono _ _ _ _ _ | exact LeO.refl _ | exact LeO.none _ | refine LeO.ite ?_ ?_ | refine LeO.bind ?_ (fun _=>?_))
   | exact LeO.none _ | refine LeO.ite ?_ ?_ | refine LeO.bind ?_ (fun _=>?_)
  intro y0 y1 y2 y3 y4
  unfold numnahref07_Holds.l0
  repeat' first
  | (with_reducible first | exact q4 _ _ _ _ _ | exact q5 _ _ _ _ _ | exact numnahref07_Has.mono _ _ _ _ | exact numnahref07_Load.mono _ _ _ _ | exact numnahref07_level.mono _ _ _ _ _ | exact LeO.refl _ | exact LeO.none _ | refine LeO.ite ?_ ?_ | refine LeO.bind ?_ (fun _=>?_))
  | exact LeO.none _ | refine LeO.ite ?_ ?_ | refine LeO.bind ?_ (fun _=>?_)
theorem numnahref07_Holds.mono:∀ a0 a1 a2 a3 a4 k,LeO (numnahref07_Holds.f k a0 a1 a2 a3 a4) (numnahref07_Holds.f (k + 1) a0 a1 a2 a3 a4):=by
 intro a0 a1 a2 a3 a4 k
 obtain ⟨q4,q5⟩:=numnahref07_Holds.mono_l k
 unfold numnahref07_Holds.f
 repeat' first
   | (with_reducible first | exact q4 _ _ _ _ _ | exact q5 _ _ _ _ _ | exact numnahref07_Has.mono _ _ _ _ | exact numnahref07_Load.mono _ _ _ _ | exact numnahref07_level.mono _ _ _ _ _ | exact LeO.refl _ | exact LeO.none _ | refine LeO.ite ?_ ?_ | refine LeO.bind ?_ (fun _=>?_))
   | exact LeO.none _ | refine LeO.ite ?_ ?_ | refine LeO.bind ?_ (fun _=>?_)
def numnahref07_Holds.T1:Bool × List (List Nat × List Nat):=(true,[([],[]),([0],[0]),([1],[1]),([2],[2]),([2],[2]),([4,2],[2,4]),([3,5,2],[2,3,5]),([2,6],[2,6]),([7,2],[7]),([8],[8]),([8],[8]),([9,10,8],[8,9,10]),([11,8],[8,11]),([8],[8]),([12,13,8,8],[8,12,13]),([14,8],[8,14]),([8,15],[8,15]),([16,14],[16]),([17],[17]),([17],[17]),([17],[17]),([18,19,20,17,17],[17,18,19,20]),([17],[17]),([17],[17]),([22,23,17],[17,22,23]),([24,17],[17,24]),([25,21,17],[17,25]),([21,26,17],[17,21,26]),([17,27],[17,27])])
def numnahref07_Holds.B1:List Nat:=[0,1,3,7,7,23,63,127,255,511,511,2047,4095,511,16383,32767,65535,131071,262143,262143,262143,2097151,262143,262143,12845055,29622271,67108863,134217727,268435455]
theorem numnahref07_Holds.tab1:rtab .any (opsOf Try.f43 1) = numnahref07_Holds.T1:=by kernel_rfl
theorem numnahref07_Holds.bits1:waitsOk numnahref07_Holds.T1.2 numnahref07_Holds.B1 = true:=by kernel_rfl
def numnahref07_Holds.T6:Bool × List (List Nat × List Nat):=(true,[([],[]),([],[]),([0,1],[0,1]),([2],[2]),([],[]),([3,4],[3,4]),([5,5],[5]),([6],[6]),([6],[6]),([7,8,6],[6,7,8]),([9,6],[6,9]),([6],[6]),([6],[6]),([11,12,6],[6,11,12]),([13,6],[6,13]),([10,14,6,6],[6,10,14]),([6],[6]),([6],[6]),([16,17,6],[6,16,17]),([18,6],[6,18]),([6],[6]),([6],[6]),([20,21,6],[6,20,21]),([22,6],[6,22]),([19,23,15,6],[6,19,23]),([15,24,24,6],[6,15,24]),([6,25],[6,25])])
def numnahref07_Holds.B6:List Nat:=[0,0,3,7,0,31,63,127,127,511,1023,127,127,6271,14463,32767,127,127,196735,458879,127,127,3145855,7340159,16777215,33554431,67108863]
theorem numnahref07_Holds.tab6:rtab .any (opsOf Try.f43 6) = numnahref07_Holds.T6:=by kernel_rfl
theorem numnahref07_Holds.bits6:waitsOk numnahref07_Holds.T6.2 numnahref07_Holds.B6 = true:=by kernel_rfl
theorem numnahref07_Holds.calls (k:Nat) (A0:Option Addr) (c0:Nat) (l0:List Int) (A1:Option Addr) (c1:Nat) (l1:List (S45)) (A2:Option Addr) (c2:Nat) (l2:List (S23)) (a3:Int) (a4:Int) (r:Bool) (w:World) (r6:Kd.C (Kd.int .i64) w A0 l0.length l0) (r7:l0.length ≤ c0) (r8:Kd.C k45 w A1 l1.length l1) (r9:l1.length ≤ c1) (s0:Kd.C k23 w A2 l2.length l2) (s1:l2.length ≤ c2) (h:numnahref07_Holds.f k l0 l1 l2 a3 a4 = some r) :
  Calls Try.prog 43 #[.slice A0 l0.length c0,.slice A1 l1.length c1,.slice A2 l2.length c2,.int .i64 a3,.int .i64 a4] w fun e w'=>e = .returned (.bool r) ∧ Below w.heap.size w w':=by
 have x9:=Try.underlying45
 have y5:=Try.underlying23
 have y6:=A_ r6
 have z3:=A_ r7
 clear r6 r7
 have o4:=A_ r8
 have y7:=A_ r9
 clear r8 r9
 have p4:=A_ s0
 have y8:=A_ s1
 clear s0 s1
 have HB:=A_ (Below.refl w.heap.size w)
 have H:(if a3 < 0 then (numnahref07_Holds.j0 k l1 l2 a3 a4 true) else (if a3 ≥ (l0.length:Int) then (numnahref07_Holds.j0 k l1 l2 a3 a4 true) else (if 0 ≤ a4 then (if a4 < (l1.length:Int) then ((numnahref07_Has.f k ((rd_T45 l1 a4).f0) ((rd_T45 l1 a4).f1) a3).bind fun n3=>(if n3 = true then ((numnahref07_Load.f k l1 l2 a3).bind fun i2=>(if 0 ≤ a3 then (if a3 < (l0.length:Int) then ((numnahref07_Whole.f (rd l0 a3)).bind fun i3=>(numnahref07_Holds.j0 k l1 l2 a3 a4 (!(i2.1 == i3.1) || (!(i2.2 == i3.2))))) else (none)) else (none))) else (numnahref07_Holds.j0 k l1 l2 a3 a4 true))) else (none)) else (none)))) = some r:=h
 clear h
 have r2:=A_ H
 clear H
 go_enter Try.func43,Try.ntmps43
 go_upto_region 1 with (fail)
 go_cut [40] (fun y9 wc=>∃ (kq:Nat) (n1:Bool),y9 = .bool n1 ∧ Aside0 (numnahref07_Holds.j0 kq l1 l2 a3 a4 n1 = some r) ∧ Aside0 (kq ≤ k) ∧ Aside0 (Below w.heap.size w wc))
 case first =>
  have H:=r2.out
  clear r2
  by_cases c7:a3 < 0
  ·rw [if_pos c7] at H
   have n9:=decide_eq_true c7
   clear c7
   (first | rw [n9] | (simp only [i64_w,i32_w];rw [n9]) | skip)
   have H':=A_ H
   clear H
   try go_wp2
   replace HB:=bD HB
   refine st 29 (fun w'=>True) [] numnahref07_Holds.tab1 numnahref07_Holds.bits1 (fun hHeld HT_ HW_=>?_)
   generalize w.drew = w8 at HB hHeld ⊢
   refine pq 0 12 1 HT_ ?_
   refine pq 1 13 3 HT_ ?_
   refine pq 2 14 7 HT_ ?_
   refine pu 3 15 15 HT_ ?_
   refine pu 4 16 31 HT_ ?_
   refine pu 5 17 63 HT_ ?_
   refine pu 6 18 127 HT_ ?_
   refine pq 7 19 255 HT_ ?_
   refine pq 8 20 511 HT_ ?_
   refine pu 9 21 1023 HT_ ?_
   refine pu 10 22 2047 HT_ ?_
   refine pu 11 23 4095 HT_ ?_
   refine pu 12 24 8191 HT_ ?_
   refine pu 13 25 16383 HT_ ?_
   refine pu 14 26 32767 HT_ ?_
   refine pu 15 27 65535 HT_ ?_
   refine pq 16 28 131071 HT_ ?_
   refine pq 17 29 262143 HT_ ?_
   refine pu 18 30 524287 HT_ ?_
   refine pu 19 31 1048575 HT_ ?_
   refine pu 20 32 2097151 HT_ ?_
   refine pu 21 33 4194303 HT_ ?_
   refine pu 22 34 8388607 HT_ ?_
   refine pu 23 35 16777215 HT_ ?_
   refine pu 24 36 33554431 HT_ ?_
   refine pu 25 37 67108863 HT_ ?_
   refine pu 26 38 134217727 HT_ ?_
   refine pu 27 39 268435455 HT_ ?_
   refine pq 28 40 536870911 HT_ ?_
   refine done_ (done_of HT_.out (by kernel_rfl)) ?_
   try go_wp2
   go_meet
   case rel=>exact ⟨_,(true),rf_,H',⟨by first | omega | exact Nat.le_refl _⟩,⟨bl HB⟩⟩
  rw [if_neg c7] at H
  have n9:=decide_eq_false c7
  clear c7
  (first | rw [n9] | (simp only [i64_w,i32_w];rw [n9]) | skip)
  by_cases c9:a3 ≥ (l0.length:Int)
  ·rw [if_pos c9] at H
   have r3:=decide_eq_true c9
   clear c9
   have H':=A_ H
   clear H
   try go_wp2
   replace HB:=bD HB
   refine st 29 (fun w'=>True) [] numnahref07_Holds.tab1 numnahref07_Holds.bits1 (fun hHeld HT_ HW_=>?_)
   generalize w.drew = z4 at HB hHeld ⊢
   refine pq 0 12 1 HT_ ?_
   refine pq 1 13 3 HT_ ?_
   refine pq 2 14 7 HT_ ?_
   refine pq 3 15 15 HT_ ?_
   refine pq 4 16 31 HT_ ?_
   refine pq 5 17 63 HT_ ?_
   refine pq 6 18 127 HT_ ?_
   refine pq 7 19 255 HT_ ?_
   refine pq 8 20 511 HT_ ?_
   refine pu 9 21 1023 HT_ ?_
   refine pu 10 22 2047 HT_ ?_
   refine pu 11 23 4095 HT_ ?_
   refine pu 12 24 8191 HT_ ?_
   refine pu 13 25 16383 HT_ ?_
   refine pu 14 26 32767 HT_ ?_
   refine pu 15 27 65535 HT_ ?_
   refine pq 16 28 131071 HT_ ?_
   refine pq 17 29 262143 HT_ ?_
   refine pu 18 30 524287 HT_ ?_
   refine pu 19 31 1048575 HT_ ?_
   refine pu 20 32 2097151 HT_ ?_
   refine pu 21 33 4194303 HT_ ?_
   refine pu 22 34 8388607 HT_ ?_
   refine pu 23 35 16777215 HT_ ?_
   refine pu 24 36 33554431 HT_ ?_
   refine pu 25 37 67108863 HT_ ?_
   refine pu 26 38 134217727 HT_ ?_
   refine pu 27 39 268435455 HT_ ?_
   refine pq 28 40 536870911 HT_ ?_
   refine done_ (done_of HT_.out (by kernel_rfl)) ?_
   try go_wp2
   go_meet
   case rel=>exact ⟨_,(true),rf_,H',⟨by first | omega | exact Nat.le_refl _⟩,⟨bl HB⟩⟩
  rw [if_neg c9] at H
  have r3:=decide_eq_false c9
  clear c9
  replace H:=gd H
  obtain ⟨s2,H⟩:=H
  have s3:=decide_eq_true s2
  clear s2
  replace H:=gd H
  obtain ⟨s4,H⟩:=H
  have s5:=decide_eq_true s4
  clear s4
  replace H:=Option.bind_eq_some_iff.mp H
  obtain ⟨n3,p5,H⟩:=H
  replace H:(if n3 = true then ((numnahref07_Load.f k l1 l2 a3).bind fun i2=>(if 0 ≤ a3 then (if a3 < (l0.length:Int) then ((numnahref07_Whole.f (rd l0 a3)).bind fun i3=>(numnahref07_Holds.j0 k l1 l2 a3 a4 (!(i2.1 == i3.1) || (!(i2.2 == i3.2))))) else (none)) else (none))) else (numnahref07_Holds.j0 k l1 l2 a3 a4 true)) = some r:=H
  have s6:=A_ p5
  clear p5
  by_cases q6:n3 = true
  case neg =>
   replace q6:=Bool.eq_false_iff.mpr q6
   subst q6
   rw [if_neg (show ¬ (false = true) by decide)] at H
   have H':=A_ H
   clear H
   try go_wp2
   replace HB:=bD HB
   have l9:0 ≤ (a4:Int):=oa_
   have m0:a4 < (l1.length:Int):=oa_
   obtain ⟨i4,i7,i8,o6,d6,d7,h2,h3⟩:=at_T45 o4.out a4 l9 m0
   have h0:=d7
   have h1:=d6
   cases o6
   replace d6:=cT HB d6
   replace d7:=cT HB d7
   have h4:=A_ h3
   have j9:=A_ h2
   clear h3 h2
   replace l9:=eq_true l9
   replace m0:=eq_true m0
   refine start_ (n:=29) (S:=fun w'=>w'.cell? (i4.add ((a4).toNat * 2)) = some (.int .i64 ((rd_T45 l1 a4).f0)) ∧ w'.cell? ⟨(i4.add ((a4).toNat * 2)).block,(i4.add ((a4).toNat * 2)).off + 1,none⟩ = some (.slice i7 ((rd_T45 l1 a4).f1).length i8)) (ds:=[]) (ba 29 0) (by kernel_rfl) rfl rfl ⟨(cT HB h1),(cT HB h0)⟩ (fun hHeld=>?_);refine with_tabW numnahref07_Holds.tab1 numnahref07_Holds.bits1 (fun HT_ HW_=>?_)
   generalize w.drew = z5 at HB h4 d6 d7 hHeld ⊢
   refine pq 0 12 1 HT_ ?_
   refine pq 1 13 3 HT_ ?_
   refine pq 2 14 7 HT_ ?_
   refine pq 3 15 15 HT_ ?_
   refine pq 4 16 31 HT_ ?_
   refine pq 5 17 63 HT_ ?_
   refine pq 6 18 127 HT_ ?_
   refine pq 7 19 255 HT_ ?_
   refine pq 8 20 511 HT_ ?_
   refine pq 9 21 1023 HT_ ?_
   refine pq 10 22 2047 HT_ ?_
   refine pq 11 23 4095 HT_ ?_
   refine pq 13 25 12287 HT_ ?_
   refine tq 12 24 16383 HT_ HW_ hHeld ?_
   refine oq 14 26 32767 HT_ (fun K hK=>?_)
   refine gq Try.func77 #[.agg #[.int .i64 ((rd_T45 l1 a4).f0),.slice i7 ((rd_T45 l1 a4).f1).length i8],.int .i64 a3] ?_
   with_reducible refine (numnahref07_Has.calls k ((rd_T45 l1 a4).f0) _ _ ((rd_T45 l1 a4).f1) a3 false _ ?side1 ?side2 s6.out).mono ?_
   (case side1=>exact cB h4 HB)
   (case side2=>exact j9.out)
   rintro e z6 ⟨rfl,hb⟩
   refine ⟨_,rfl,?_⟩
   replace HB:=bB HB hb
   (try clear hb)
   refine hK.out _ _ ⟨(cT HB h1),(cT HB h0)⟩ (fun hHeld=>?_)
   clear hK K
   refine nq 26 ?_
   refine pq 15 27 65535 HT_ ?_
   refine pq 16 28 131071 HT_ ?_
   refine pq 17 29 262143 HT_ ?_
   refine pu 18 30 524287 HT_ ?_
   refine pu 19 31 1048575 HT_ ?_
   refine pu 20 32 2097151 HT_ ?_
   refine pu 21 33 4194303 HT_ ?_
   refine pu 22 34 8388607 HT_ ?_
   refine pu 23 35 16777215 HT_ ?_
   refine pu 24 36 33554431 HT_ ?_
   refine pu 25 37 67108863 HT_ ?_
   refine pu 26 38 134217727 HT_ ?_
   refine pu 27 39 268435455 HT_ ?_
   refine pq 28 40 536870911 HT_ ?_
   refine done_ (done_of HT_.out (by kernel_rfl)) ?_
   try go_wp2
   go_meet
   case rel=>exact ⟨_,(true),rf_,H',⟨by first | omega | exact Nat.le_refl _⟩,⟨bl HB⟩⟩
  subst q6
  rw [if_pos rfl] at H
  replace H:=Option.bind_eq_some_iff.mp H
  obtain ⟨⟨p6,p7⟩,A150,H⟩:=H
  dsimp only at H
  have z0:=A_ A150
  clear A150
  replace H:=gd H
  obtain ⟨s7,H⟩:=H
  have s8:=decide_eq_true s7
  clear s7
  replace H:=gd H
  obtain ⟨s9,H⟩:=H
  have t0:=decide_eq_true s9
  clear s9
  replace H:=Option.bind_eq_some_iff.mp H
  obtain ⟨⟨p8,p9⟩,A180,H⟩:=H
  dsimp only at H
  have z1:=A_ A180
  clear A180
  have H':=A_ H
  clear H
  try go_wp2
  replace HB:=bD HB
  have l9:0 ≤ (a4:Int):=oa_
  have m0:a4 < (l1.length:Int):=oa_
  obtain ⟨i4,i7,i8,o6,d6,d7,h2,h3⟩:=at_T45 o4.out a4 l9 m0
  have h0:=d7
  have h1:=d6
  cases o6
  replace d6:=cT HB d6
  replace d7:=cT HB d7
  have h4:=A_ h3
  have j9:=A_ h2
  clear h3 h2
  replace l9:=eq_true l9
  replace m0:=eq_true m0
  have o7:0 ≤ (a3:Int):=oa_
  have o8:a3 < (l0.length:Int):=oa_
  obtain ⟨q0,r4,i5⟩:=Kd.at_int y6.out a3 o7 o8
  have i6:=i5
  cases r4
  replace i5:=cT HB i5
  replace o7:=eq_true o7
  replace o8:=eq_true o8
  refine start_ (n:=29) (S:=fun w'=>w'.cell? (i4.add ((a4).toNat * 2)) = some (.int .i64 ((rd_T45 l1 a4).f0)) ∧ w'.cell? ⟨(i4.add ((a4).toNat * 2)).block,(i4.add ((a4).toNat * 2)).off + 1,none⟩ = some (.slice i7 ((rd_T45 l1 a4).f1).length i8) ∧ w'.cell? (q0.add (a3).toNat) = some (.int .i64 (rd l0 a3))) (ds:=[]) (ba 29 0) (by kernel_rfl) rfl rfl ⟨(cT HB h1),(cT HB h0),(cT HB i6)⟩ (fun hHeld=>?_);refine with_tabW numnahref07_Holds.tab1 numnahref07_Holds.bits1 (fun HT_ HW_=>?_)
  generalize w.drew = z7 at HB h4 d6 d7 i5 hHeld ⊢
  refine pq 0 12 1 HT_ ?_
  refine pq 1 13 3 HT_ ?_
  refine pq 2 14 7 HT_ ?_
  refine pq 3 15 15 HT_ ?_
  refine pq 4 16 31 HT_ ?_
  refine pq 5 17 63 HT_ ?_
  refine pq 6 18 127 HT_ ?_
  refine pq 7 19 255 HT_ ?_
  refine pq 8 20 511 HT_ ?_
  refine pq 9 21 1023 HT_ ?_
  refine pq 10 22 2047 HT_ ?_
  refine pq 11 23 4095 HT_ ?_
  refine pq 13 25 12287 HT_ ?_
  refine tq 12 24 16383 HT_ HW_ hHeld ?_
  refine oq 14 26 32767 HT_ (fun K hK=>?_)
  refine gq Try.func77 #[.agg #[.int .i64 ((rd_T45 l1 a4).f0),.slice i7 ((rd_T45 l1 a4).f1).length i8],.int .i64 a3] ?_
  with_reducible refine (numnahref07_Has.calls k ((rd_T45 l1 a4).f0) _ _ ((rd_T45 l1 a4).f1) a3 true _ ?side1 ?side2 s6.out).mono ?_
  (case side1=>exact cB h4 HB)
  (case side2=>exact j9.out)
  rintro e z8 ⟨rfl,hb⟩
  refine ⟨_,rfl,?_⟩
  replace HB:=bB HB hb
  (try clear hb)
  refine hK.out _ _ ⟨(cT HB h1),(cT HB h0),(cT HB i6)⟩ (fun hHeld=>?_)
  clear hK K
  refine nq 26 ?_
  refine pq 15 27 65535 HT_ ?_
  refine pq 16 28 131071 HT_ ?_
  refine pq 17 29 262143 HT_ ?_
  refine pq 18 30 524287 HT_ ?_
  refine pq 19 31 1048575 HT_ ?_
  refine pq 20 32 2097151 HT_ ?_
  refine pq 22 34 6291455 HT_ ?_
  refine pq 23 35 14680063 HT_ ?_
  refine pq 24 36 31457279 HT_ ?_
  refine tq 25 37 65011711 HT_ HW_ hHeld ?_
  refine oq 21 33 67108863 HT_ (fun K hK=>?_)
  refine gq Try.func60 #[.slice (some i4) l1.length c1,.slice A2 l2.length c2,.int .i64 a3] ?_
  with_reducible refine (numnahref07_Load.calls k _ _ l1 _ _ l2 a3 p6 p7 _ ?side1 ?side2 ?side3 ?side4 z0.out).mono ?_
  (case side1=>exact cB o4 HB)
  (case side2=>exact y7.out)
  (case side3=>exact cB p4 HB)
  (case side4=>exact y8.out)
  rintro e z9 ⟨rfl,hb⟩
  refine ⟨_,rfl,?_⟩
  replace HB:=bB HB hb
  (try clear hb)
  refine hK.out _ _ ⟨(cT HB h1),(cT HB h0),(cT HB i6)⟩ (fun hHeld=>?_)
  clear hK K
  refine nq 33 ?_
  refine oq 26 38 134217727 HT_ (fun K hK=>?_)
  refine gq Try.func23 #[.int .i64 (rd l0 a3)] ?_
  with_reducible refine (numnahref07_Whole.calls (rd l0 a3) p8 p9 _ z1.out).mono ?_
  rintro e A3 ⟨rfl,hb⟩
  refine ⟨_,rfl,?_⟩
  replace HB:=bB HB hb
  (try clear hb)
  refine hK.out _ _ ⟨(cT HB h1),(cT HB h0),(cT HB i6)⟩ (fun hHeld=>?_)
  clear hK K
  refine nq 38 ?_
  refine pq 27 39 268435455 HT_ ?_
  refine pq 28 40 536870911 HT_ ?_
  refine done_ (done_of HT_.out (by kernel_rfl)) ?_
  try go_wp2
  go_meet
  case rel=>exact ⟨_,((!(p6 == p8) || (!(p7 == p9)))),rf_,H',⟨by first | omega | exact Nat.le_refl _⟩,⟨bl HB⟩⟩
 case rest =>
  clear r2
  obtain ⟨kq,n1,rfl,HA,q7,HB⟩:=hcut
  cases kq with
  | zero=>exact absurd HA.out (by simp [numnahref07_Holds.j0])
  | succ t1 =>
   have H:=HA.out
   clear HA
   simp only [numnahref07_Holds.j0] at H
   by_cases q8:n1 = true
   ·subst q8
    rw [if_pos rfl] at H
    obtain rfl:=Option.some.inj H
    go_wp2
    go_ret
    exact ⟨by first | rfl | (simp [errW_none,errW_some] <;> rfl) | (simp [*,errW_none,errW_some] <;> rfl),bl HB⟩
   replace q8:=Bool.eq_false_iff.mpr q8
   subst q8
   rw [if_neg (show ¬ (false = true) by decide)] at H
   have H':=A_ H
   clear H
   go_wp2
   go_loopg [11] t1 (fun kq z2 w'=>∃ (b0:Int),z2 = .int .i64 b0 ∧ Aside0 (numnahref07_Holds.l0 kq l1 l2 a3 a4 b0 = some r) ∧ Aside0 (kq ≤ t1) ∧ Aside0 (Below w.heap.size w w'))
   case atStart=>exact ⟨(0),rf_,H',⟨Nat.le_refl _⟩,⟨bl HB⟩⟩
   case round =>
    clear H'
    obtain ⟨b0,rfl,HA,q9,HB⟩:=hrel
    cases gk with
    | zero=>exact absurd HA.out (by simp [numnahref07_Holds.l0])
    | succ k2 =>
     have H:=HA.out
     clear HA
     simp only [numnahref07_Holds.l0] at H
     by_cases p3:b0 < (l1.length:Int)
     case neg =>
      rw [if_neg p3] at H
      have q1:=decide_eq_false p3
      clear p3
      obtain rfl:=Option.some.inj H
      go_wp2
      go_ret
      exact ⟨by first | rfl | (simp [errW_none,errW_some] <;> rfl) | (simp [*,errW_none,errW_some] <;> rfl),bl HB⟩
     rw [if_pos p3] at H
     have q1:=decide_eq_true p3
     clear p3
     replace H:=gd H
     obtain ⟨t2,H⟩:=H
     have t3:=decide_eq_true t2
     clear t2
     replace H:=Option.bind_eq_some_iff.mp H
     obtain ⟨o5,q2,H⟩:=H
     replace H:(if o5 = true then (if 0 ≤ a4 then (if a4 < (l1.length:Int) then (if a4 < (l2.length:Int) then ((numnahref07_level.f k2 ((rd_T45 l1 a4).f0) ((rd_T45 l1 a4).f1) ((rd_T23 l2 a4).f0) ((rd_T23 l2 a4).f1)).bind fun l7=>(if b0 < (l2.length:Int) then ((numnahref07_level.f k2 ((rd_T45 l1 b0).f0) ((rd_T45 l1 b0).f1) ((rd_T23 l2 b0).f0) ((rd_T23 l2 b0).f1)).bind fun l8=>((numnahref07_Less.f l7.1 l7.2 l8.1 l8.2).bind fun n2=>(if n2 = true then (some false) else (numnahref07_Holds.l0 k2 l1 l2 a3 a4 (wrap64 (b0 + 1)))))) else (none))) else (none)) else (none)) else (none)) else (numnahref07_Holds.l0 k2 l1 l2 a3 a4 (wrap64 (b0 + 1)))) = some r:=H
     have r5:=A_ q2
     clear q2
     by_cases r0:o5 = true
     case neg =>
      replace r0:=Bool.eq_false_iff.mpr r0
      subst r0
      rw [if_neg (show ¬ (false = true) by decide)] at H
      have H':=A_ H
      clear H
      try go_wp2
      replace HB:=bD HB
      have i9:0 ≤ (b0:Int):=oa_
      have j5:b0 < (l1.length:Int):=oa_
      obtain ⟨b2,b7,b8,o0,b3,b4,e7,e8⟩:=at_T45 o4.out b0 i9 j5
      have b1:=b4
      have b5:=b3
      cases o0
      replace b3:=cT HB b3
      replace b4:=cT HB b4
      have e9:=A_ e8
      have h5:=A_ e7
      clear e8 e7
      replace i9:=eq_true i9
      replace j5:=eq_true j5
      refine start_ (n:=27) (S:=fun w'=>w'.cell? (b2.add ((b0).toNat * 2)) = some (.int .i64 ((rd_T45 l1 b0).f0)) ∧ w'.cell? ⟨(b2.add ((b0).toNat * 2)).block,(b2.add ((b0).toNat * 2)).off + 1,none⟩ = some (.slice b7 ((rd_T45 l1 b0).f1).length b8)) (ds:=[]) (ba 27 0) (by kernel_rfl) rfl rfl ⟨(cT HB b5),(cT HB b1)⟩ (fun hHeld=>?_);refine with_tabW numnahref07_Holds.tab6 numnahref07_Holds.bits6 (fun HT_ HW_=>?_)
      generalize wr.drew = A4 at HB e9 b3 b4 hHeld ⊢
      refine pq 0 47 1 HT_ ?_
      refine pq 1 48 3 HT_ ?_
      refine pq 2 49 7 HT_ ?_
      refine pq 4 51 23 HT_ ?_
      refine tq 3 50 31 HT_ HW_ hHeld ?_
      refine oq 5 52 63 HT_ (fun K hK=>?_)
      refine gq Try.func77 #[.agg #[.int .i64 ((rd_T45 l1 b0).f0),.slice b7 ((rd_T45 l1 b0).f1).length b8],.int .i64 a3] ?_
      with_reducible refine (numnahref07_Has.calls k2 ((rd_T45 l1 b0).f0) _ _ ((rd_T45 l1 b0).f1) a3 false _ ?side1 ?side2 r5.out).mono ?_
      (case side1=>exact cB e9 HB)
      (case side2=>exact h5.out)
      rintro e A5 ⟨rfl,hb⟩
      refine ⟨_,rfl,?_⟩
      replace HB:=bB HB hb
      (try clear hb)
      refine hK.out _ _ ⟨(cT HB b5),(cT HB b1)⟩ (fun hHeld=>?_)
      clear hK K
      refine nq 52 ?_
      refine pq 6 53 127 HT_ ?_
      refine pu 7 54 255 HT_ ?_
      refine pu 8 55 511 HT_ ?_
      refine pu 9 56 1023 HT_ ?_
      refine pu 10 57 2047 HT_ ?_
      refine pu 11 58 4095 HT_ ?_
      refine pu 12 59 8191 HT_ ?_
      refine pu 13 60 16383 HT_ ?_
      refine pu 14 61 32767 HT_ ?_
      refine pu 15 62 65535 HT_ ?_
      refine pu 16 63 131071 HT_ ?_
      refine pu 17 64 262143 HT_ ?_
      refine pu 18 65 524287 HT_ ?_
      refine pu 19 66 1048575 HT_ ?_
      refine pu 20 67 2097151 HT_ ?_
      refine pu 21 68 4194303 HT_ ?_
      refine pu 22 69 8388607 HT_ ?_
      refine pu 23 70 16777215 HT_ ?_
      refine pu 24 71 33554431 HT_ ?_
      refine pu 25 72 67108863 HT_ ?_
      refine pq 26 73 134217727 HT_ ?_
      refine done_ (done_of HT_.out (by kernel_rfl)) ?_
      try go_wp2
      go_roundg k2
      case measure=>have:=q7.out;have:=q9.out;omega
      case rel=>exact ⟨(wrap64 (b0 + 1)),rf_,H',⟨by have:=q7.out;have:=q9.out;omega⟩,⟨bl HB⟩⟩
     subst r0
     rw [if_pos rfl] at H
     replace H:=gd H
     obtain ⟨t4,H⟩:=H
     have t5:=decide_eq_true t4
     clear t4
     replace H:=gd H
     obtain ⟨t6,H⟩:=H
     have t7:=decide_eq_true t6
     clear t6
     replace H:=gd H
     obtain ⟨t8,H⟩:=H
     have t9:=decide_eq_true t8
     clear t8
     replace H:=Option.bind_eq_some_iff.mp H
     obtain ⟨⟨n4,n5⟩,A330,H⟩:=H
     dsimp only at H
     have x0:=A_ A330
     clear A330
     replace H:=gd H
     obtain ⟨x5,H⟩:=H
     have x6:=decide_eq_true x5
     clear x5
     replace H:=Option.bind_eq_some_iff.mp H
     obtain ⟨⟨n6,n7⟩,A350,H⟩:=H
     dsimp only at H
     have x7:=A_ A350
     clear A350
     replace H:=Option.bind_eq_some_iff.mp H
     obtain ⟨n2,q3,H⟩:=H
     replace H:(if n2 = true then (some false) else (numnahref07_Holds.l0 k2 l1 l2 a3 a4 (wrap64 (b0 + 1)))) = some r:=H
     have x8:=A_ q3
     clear q3
     by_cases r1:n2 = true
     ·subst r1
      rw [if_pos rfl] at H
      obtain rfl:=Option.some.inj H
      try go_wp2
      replace HB:=bD HB
      have i9:0 ≤ (b0:Int):=oa_
      have j5:b0 < (l1.length:Int):=oa_
      obtain ⟨b2,b7,b8,o0,b3,b4,e7,e8⟩:=at_T45 o4.out b0 i9 j5
      have b1:=b4
      have b5:=b3
      cases o0
      replace b3:=cT HB b3
      replace b4:=cT HB b4
      have e9:=A_ e8
      have h5:=A_ e7
      clear e8 e7
      replace i9:=eq_true i9
      replace j5:=eq_true j5
      have m1:0 ≤ (a4:Int):=oa_
      have m2:a4 < (l1.length:Int):=oa_
      obtain ⟨o1,j7,j8,o9,d8,d9,h6,h7⟩:=at_T45 o4.out a4 m1 m2
      have b9:=d9
      have d0:=d8
      obtain rfl:b2 = o1:=(by injection o9)
      replace d8:=cT HB d8
      replace d9:=cT HB d9
      have h8:=A_ h7
      have l5:=A_ h6
      clear h7 h6
      replace m1:=eq_true m1
      replace m2:=eq_true m2
      have m3:0 ≤ (a4:Int):=oa_
      have m4:a4 < (l2.length:Int):=oa_
      obtain ⟨e6,p0,e0,e1⟩:=at_T23 p4.out a4 m3 m4
      have d1:=e1
      have d2:=e0
      cases p0
      replace e0:=cT HB e0
      replace e1:=cT HB e1
      replace m3:=eq_true m3
      replace m4:=eq_true m4
      have m5:0 ≤ (b0:Int):=oa_
      have m6:b0 < (l1.length:Int):=oa_
      obtain ⟨o2,m7,m8,p1,e2,e3,h9,i0⟩:=at_T45 o4.out b0 m5 m6
      have b6:=e3
      have d3:=e2
      obtain rfl:b2 = o2:=(by injection p1)
      obtain ⟨rfl,rfl⟩:b7 = m7 ∧ b8 = m8:=by have z:=b1.symm.trans b6;injection z with z;injection z with za _ zc;exact ⟨za,zc⟩
      replace e2:=cT HB e2
      replace e3:=cT HB e3
      have i1:=A_ i0
      have l6:=A_ h9
      clear i0 h9
      replace m5:=eq_true m5
      replace m6:=eq_true m6
      have m9:0 ≤ (b0:Int):=oa_
      have n0:b0 < (l2.length:Int):=oa_
      obtain ⟨o3,p2,e4,e5⟩:=at_T23 p4.out b0 m9 n0
      have d4:=e5
      have d5:=e4
      obtain rfl:e6 = o3:=(by injection p2)
      replace e4:=cT HB e4
      replace e5:=cT HB e5
      replace m9:=eq_true m9
      replace n0:=eq_true n0
      refine start_ (n:=27) (S:=fun w'=>w'.cell? (b2.add ((b0).toNat * 2)) = some (.int .i64 ((rd_T45 l1 b0).f0)) ∧ w'.cell? ⟨(b2.add ((b0).toNat * 2)).block,(b2.add ((b0).toNat * 2)).off + 1,none⟩ = some (.slice b7 ((rd_T45 l1 b0).f1).length b8) ∧ w'.cell? (b2.add ((a4).toNat * 2)) = some (.int .i64 ((rd_T45 l1 a4).f0)) ∧ w'.cell? ⟨(b2.add ((a4).toNat * 2)).block,(b2.add ((a4).toNat * 2)).off + 1,none⟩ = some (.slice j7 ((rd_T45 l1 a4).f1).length j8) ∧ w'.cell? (e6.add ((a4).toNat * 2)) = some (.int .i64 ((rd_T23 l2 a4).f0)) ∧ w'.cell? ⟨(e6.add ((a4).toNat * 2)).block,(e6.add ((a4).toNat * 2)).off + 1,none⟩ = some (.int .i64 ((rd_T23 l2 a4).f1)) ∧ w'.cell? (b2.add ((b0).toNat * 2)) = some (.int .i64 ((rd_T45 l1 b0).f0)) ∧ w'.cell? ⟨(b2.add ((b0).toNat * 2)).block,(b2.add ((b0).toNat * 2)).off + 1,none⟩ = some (.slice b7 ((rd_T45 l1 b0).f1).length b8) ∧ w'.cell? (e6.add ((b0).toNat * 2)) = some (.int .i64 ((rd_T23 l2 b0).f0)) ∧ w'.cell? ⟨(e6.add ((b0).toNat * 2)).block,(e6.add ((b0).toNat * 2)).off + 1,none⟩ = some (.int .i64 ((rd_T23 l2 b0).f1))) (ds:=[]) (ba 27 0) (by kernel_rfl) rfl rfl ⟨(cT HB b5),(cT HB b1),(cT HB d0),(cT HB b9),(cT HB d2),(cT HB d1),(cT HB d3),(cT HB b6),(cT HB d5),(cT HB d4)⟩ (fun hHeld=>?_);refine with_tabW numnahref07_Holds.tab6 numnahref07_Holds.bits6 (fun HT_ HW_=>?_)
      generalize wr.drew = A6 at HB e9 h8 i1 b3 b4 d8 d9 e0 e1 e2 e3 e4 e5 hHeld ⊢
      refine pq 0 47 1 HT_ ?_
      refine pq 1 48 3 HT_ ?_
      refine pq 2 49 7 HT_ ?_
      refine pq 4 51 23 HT_ ?_
      refine tq 3 50 31 HT_ HW_ hHeld ?_
      refine oq 5 52 63 HT_ (fun K hK=>?_)
      refine gq Try.func77 #[.agg #[.int .i64 ((rd_T45 l1 b0).f0),.slice b7 ((rd_T45 l1 b0).f1).length b8],.int .i64 a3] ?_
      with_reducible refine (numnahref07_Has.calls k2 ((rd_T45 l1 b0).f0) _ _ ((rd_T45 l1 b0).f1) a3 true _ ?side1 ?side2 r5.out).mono ?_
      (case side1=>exact cB e9 HB)
      (case side2=>exact h5.out)
      rintro e A7 ⟨rfl,hb⟩
      refine ⟨_,rfl,?_⟩
      replace HB:=bB HB hb
      (try clear hb)
      refine hK.out _ _ ⟨(cT HB b5),(cT HB b1),(cT HB d0),(cT HB b9),(cT HB d2),(cT HB d1),(cT HB d3),(cT HB b6),(cT HB d5),(cT HB d4)⟩ (fun hHeld=>?_)
      clear hK K
      refine nq 52 ?_
      refine pq 6 53 127 HT_ ?_
      refine pq 7 54 255 HT_ ?_
      refine pq 8 55 511 HT_ ?_
      refine pq 9 56 1023 HT_ ?_
      refine pq 11 58 3071 HT_ ?_
      refine pq 12 59 7167 HT_ ?_
      refine pq 13 60 15359 HT_ ?_
      refine pq 16 63 80895 HT_ ?_
      refine pq 17 64 211967 HT_ ?_
      refine pq 18 65 474111 HT_ ?_
      refine pq 20 67 1522687 HT_ ?_
      refine pq 21 68 3619839 HT_ ?_
      refine pq 22 69 7814143 HT_ ?_
      refine tq 10 57 7815167 HT_ HW_ hHeld ?_
      refine tq 14 61 7831551 HT_ HW_ hHeld ?_
      refine tq 19 66 8355839 HT_ HW_ hHeld ?_
      refine tq 23 70 16744447 HT_ HW_ hHeld ?_
      refine oq 15 62 16777215 HT_ (fun K hK=>?_)
      refine gq Try.func78 #[.agg #[.int .i64 ((rd_T45 l1 a4).f0),.slice j7 ((rd_T45 l1 a4).f1).length j8],.agg #[.int .i64 ((rd_T23 l2 a4).f0),.int .i64 ((rd_T23 l2 a4).f1)]] ?_
      with_reducible refine (numnahref07_level.calls k2 ((rd_T45 l1 a4).f0) _ _ ((rd_T45 l1 a4).f1) ((rd_T23 l2 a4).f0) ((rd_T23 l2 a4).f1) n4 n5 _ ?side1 ?side2 x0.out).mono ?_
      (case side1=>exact cB h8 HB)
      (case side2=>exact l5.out)
      rintro e A8 ⟨rfl,hb⟩
      refine ⟨_,rfl,?_⟩
      replace HB:=bB HB hb
      (try clear hb)
      refine hK.out _ _ ⟨(cT HB b5),(cT HB b1),(cT HB d0),(cT HB b9),(cT HB d2),(cT HB d1),(cT HB d3),(cT HB b6),(cT HB d5),(cT HB d4)⟩ (fun hHeld=>?_)
      clear hK K
      refine nq 62 ?_
      refine oq 24 71 33554431 HT_ (fun K hK=>?_)
      refine gq Try.func78 #[.agg #[.int .i64 ((rd_T45 l1 b0).f0),.slice b7 ((rd_T45 l1 b0).f1).length b8],.agg #[.int .i64 ((rd_T23 l2 b0).f0),.int .i64 ((rd_T23 l2 b0).f1)]] ?_
      with_reducible refine (numnahref07_level.calls k2 ((rd_T45 l1 b0).f0) _ _ ((rd_T45 l1 b0).f1) ((rd_T23 l2 b0).f0) ((rd_T23 l2 b0).f1) n6 n7 _ ?side1 ?side2 x7.out).mono ?_
      (case side1=>exact cB i1 HB)
      (case side2=>exact l6.out)
      rintro e A9 ⟨rfl,hb⟩
      refine ⟨_,rfl,?_⟩
      replace HB:=bB HB hb
      (try clear hb)
      refine hK.out _ _ ⟨(cT HB b5),(cT HB b1),(cT HB d0),(cT HB b9),(cT HB d2),(cT HB d1),(cT HB d3),(cT HB b6),(cT HB d5),(cT HB d4)⟩ (fun hHeld=>?_)
      clear hK K
      refine nq 71 ?_
      refine oq 25 72 67108863 HT_ (fun K hK=>?_)
      refine gq Try.func30 #[.agg #[.int .i64 n4,.int .i64 n5],.agg #[.int .i64 n6,.int .i64 n7]] ?_
      with_reducible refine (numnahref07_Less.calls n4 n5 n6 n7 true _ x8.out).mono ?_
      rintro e B0 ⟨rfl,hb⟩
      refine ⟨_,rfl,?_⟩
      replace HB:=bB HB hb
      (try clear hb)
      refine hK.out _ _ ⟨(cT HB b5),(cT HB b1),(cT HB d0),(cT HB b9),(cT HB d2),(cT HB d1),(cT HB d3),(cT HB b6),(cT HB d5),(cT HB d4)⟩ (fun hHeld=>?_)
      clear hK K
      refine nq 72 ?_
      refine pq 26 73 134217727 HT_ ?_
      refine done_ (done_of HT_.out (by kernel_rfl)) ?_
      try go_wp2
      go_ret
      exact ⟨by first | rfl | (simp [errW_none,errW_some] <;> rfl) | (simp [*,errW_none,errW_some] <;> rfl),bl HB⟩
     replace r1:=Bool.eq_false_iff.mpr r1
     subst r1
     rw [if_neg (show ¬ (false = true) by decide)] at H
     have H':=A_ H
     clear H
     try go_wp2
     replace HB:=bD HB
     have i9:0 ≤ (b0:Int):=oa_
     have j5:b0 < (l1.length:Int):=oa_
     obtain ⟨b2,b7,b8,o0,b3,b4,e7,e8⟩:=at_T45 o4.out b0 i9 j5
     have b1:=b4
     have b5:=b3
     cases o0
     replace b3:=cT HB b3
     replace b4:=cT HB b4
     have e9:=A_ e8
     have h5:=A_ e7
     clear e8 e7
     replace i9:=eq_true i9
     replace j5:=eq_true j5
     have m1:0 ≤ (a4:Int):=oa_
     have m2:a4 < (l1.length:Int):=oa_
     obtain ⟨o1,j7,j8,o9,d8,d9,h6,h7⟩:=at_T45 o4.out a4 m1 m2
     have b9:=d9
     have d0:=d8
     obtain rfl:b2 = o1:=(by injection o9)
     replace d8:=cT HB d8
     replace d9:=cT HB d9
     have h8:=A_ h7
     have l5:=A_ h6
     clear h7 h6
     replace m1:=eq_true m1
     replace m2:=eq_true m2
     have m3:0 ≤ (a4:Int):=oa_
     have m4:a4 < (l2.length:Int):=oa_
     obtain ⟨e6,p0,e0,e1⟩:=at_T23 p4.out a4 m3 m4
     have d1:=e1
     have d2:=e0
     cases p0
     replace e0:=cT HB e0
     replace e1:=cT HB e1
     replace m3:=eq_true m3
     replace m4:=eq_true m4
     have m5:0 ≤ (b0:Int):=oa_
     have m6:b0 < (l1.length:Int):=oa_
     obtain ⟨o2,m7,m8,p1,e2,e3,h9,i0⟩:=at_T45 o4.out b0 m5 m6
     have b6:=e3
     have d3:=e2
     obtain rfl:b2 = o2:=(by injection p1)
     obtain ⟨rfl,rfl⟩:b7 = m7 ∧ b8 = m8:=by have z:=b1.symm.trans b6;injection z with z;injection z with za _ zc;exact ⟨za,zc⟩
     replace e2:=cT HB e2
     replace e3:=cT HB e3
     have i1:=A_ i0
     have l6:=A_ h9
     clear i0 h9
     replace m5:=eq_true m5
     replace m6:=eq_true m6
     have m9:0 ≤ (b0:Int):=oa_
     have n0:b0 < (l2.length:Int):=oa_
     obtain ⟨o3,p2,e4,e5⟩:=at_T23 p4.out b0 m9 n0
     have d4:=e5
     have d5:=e4
     obtain rfl:e6 = o3:=(by injection p2)
     replace e4:=cT HB e4
     replace e5:=cT HB e5
     replace m9:=eq_true m9
     replace n0:=eq_true n0
     refine start_ (n:=27) (S:=fun w'=>w'.cell? (b2.add ((b0).toNat * 2)) = some (.int .i64 ((rd_T45 l1 b0).f0)) ∧ w'.cell? ⟨(b2.add ((b0).toNat * 2)).block,(b2.add ((b0).toNat * 2)).off + 1,none⟩ = some (.slice b7 ((rd_T45 l1 b0).f1).length b8) ∧ w'.cell? (b2.add ((a4).toNat * 2)) = some (.int .i64 ((rd_T45 l1 a4).f0)) ∧ w'.cell? ⟨(b2.add ((a4).toNat * 2)).block,(b2.add ((a4).toNat * 2)).off + 1,none⟩ = some (.slice j7 ((rd_T45 l1 a4).f1).length j8) ∧ w'.cell? (e6.add ((a4).toNat * 2)) = some (.int .i64 ((rd_T23 l2 a4).f0)) ∧ w'.cell? ⟨(e6.add ((a4).toNat * 2)).block,(e6.add ((a4).toNat * 2)).off + 1,none⟩ = some (.int .i64 ((rd_T23 l2 a4).f1)) ∧ w'.cell? (b2.add ((b0).toNat * 2)) = some (.int .i64 ((rd_T45 l1 b0).f0)) ∧ w'.cell? ⟨(b2.add ((b0).toNat * 2)).block,(b2.add ((b0).toNat * 2)).off + 1,none⟩ = some (.slice b7 ((rd_T45 l1 b0).f1).length b8) ∧ w'.cell? (e6.add ((b0).toNat * 2)) = some (.int .i64 ((rd_T23 l2 b0).f0)) ∧ w'.cell? ⟨(e6.add ((b0).toNat * 2)).block,(e6.add ((b0).toNat * 2)).off + 1,none⟩ = some (.int .i64 ((rd_T23 l2 b0).f1))) (ds:=[]) (ba 27 0) (by kernel_rfl) rfl rfl ⟨(cT HB b5),(cT HB b1),(cT HB d0),(cT HB b9),(cT HB d2),(cT HB d1),(cT HB d3),(cT HB b6),(cT HB d5),(cT HB d4)⟩ (fun hHeld=>?_);refine with_tabW numnahref07_Holds.tab6 numnahref07_Holds.bits6 (fun HT_ HW_=>?_)
     generalize wr.drew = C0 at HB e9 h8 i1 b3 b4 d8 d9 e0 e1 e2 e3 e4 e5 hHeld ⊢
     refine pq 0 47 1 HT_ ?_
     refine pq 1 48 3 HT_ ?_
     refine pq 2 49 7 HT_ ?_
     refine pq 4 51 23 HT_ ?_
     refine tq 3 50 31 HT_ HW_ hHeld ?_
     refine oq 5 52 63 HT_ (fun K hK=>?_)
     refine gq Try.func77 #[.agg #[.int .i64 ((rd_T45 l1 b0).f0),.slice b7 ((rd_T45 l1 b0).f1).length b8],.int .i64 a3] ?_
     with_reducible refine (numnahref07_Has.calls k2 ((rd_T45 l1 b0).f0) _ _ ((rd_T45 l1 b0).f1) a3 true _ ?side1 ?side2 r5.out).mono ?_
     (case side1=>exact cB e9 HB)
     (case side2=>exact h5.out)
     rintro e C1 ⟨rfl,hb⟩
     refine ⟨_,rfl,?_⟩
     replace HB:=bB HB hb
     (try clear hb)
     refine hK.out _ _ ⟨(cT HB b5),(cT HB b1),(cT HB d0),(cT HB b9),(cT HB d2),(cT HB d1),(cT HB d3),(cT HB b6),(cT HB d5),(cT HB d4)⟩ (fun hHeld=>?_)
     clear hK K
     refine nq 52 ?_
     refine pq 6 53 127 HT_ ?_
     refine pq 7 54 255 HT_ ?_
     refine pq 8 55 511 HT_ ?_
     refine pq 9 56 1023 HT_ ?_
     refine pq 11 58 3071 HT_ ?_
     refine pq 12 59 7167 HT_ ?_
     refine pq 13 60 15359 HT_ ?_
     refine pq 16 63 80895 HT_ ?_
     refine pq 17 64 211967 HT_ ?_
     refine pq 18 65 474111 HT_ ?_
     refine pq 20 67 1522687 HT_ ?_
     refine pq 21 68 3619839 HT_ ?_
     refine pq 22 69 7814143 HT_ ?_
     refine tq 10 57 7815167 HT_ HW_ hHeld ?_
     refine tq 14 61 7831551 HT_ HW_ hHeld ?_
     refine tq 19 66 8355839 HT_ HW_ hHeld ?_
     refine tq 23 70 16744447 HT_ HW_ hHeld ?_
     refine oq 15 62 16777215 HT_ (fun K hK=>?_)
     refine gq Try.func78 #[.agg #[.int .i64 ((rd_T45 l1 a4).f0),.slice j7 ((rd_T45 l1 a4).f1).length j8],.agg #[.int .i64 ((rd_T23 l2 a4).f0),.int .i64 ((rd_T23 l2 a4).f1)]] ?_
     with_reducible refine (numnahref07_level.calls k2 ((rd_T45 l1 a4).f0) _ _ ((rd_T45 l1 a4).f1) ((rd_T23 l2 a4).f0) ((rd_T23 l2 a4).f1) n4 n5 _ ?side1 ?side2 x0.out).mono ?_
     (case side1=>exact cB h8 HB)
     (case side2=>exact l5.out)
     rintro e C2 ⟨rfl,hb⟩
     refine ⟨_,rfl,?_⟩
     replace HB:=bB HB hb
     (try clear hb)
     refine hK.out _ _ ⟨(cT HB b5),(cT HB b1),(cT HB d0),(cT HB b9),(cT HB d2),(cT HB d1),(cT HB d3),(cT HB b6),(cT HB d5),(cT HB d4)⟩ (fun hHeld=>?_)
     clear hK K
     refine nq 62 ?_
     refine oq 24 71 33554431 HT_ (fun K hK=>?_)
     refine gq Try.func78 #[.agg #[.int .i64 ((rd_T45 l1 b0).f0),.slice b7 ((rd_T45 l1 b0).f1).length b8],.agg #[.int .i64 ((rd_T23 l2 b0).f0),.int .i64 ((rd_T23 l2 b0).f1)]] ?_
     with_reducible refine (numnahref07_level.calls k2 ((rd_T45 l1 b0).f0) _ _ ((rd_T45 l1 b0).f1) ((rd_T23 l2 b0).f0) ((rd_T23 l2 b0).f1) n6 n7 _ ?side1 ?side2 x7.out).mono ?_
     (case side1=>exact cB i1 HB)
     (case side2=>exact l6.out)
     rintro e C3 ⟨rfl,hb⟩
     refine ⟨_,rfl,?_⟩
     replace HB:=bB HB hb
     (try clear hb)
     refine hK.out _ _ ⟨(cT HB b5),(cT HB b1),(cT HB d0),(cT HB b9),(cT HB d2),(cT HB d1),(cT HB d3),(cT HB b6),(cT HB d5),(cT HB d4)⟩ (fun hHeld=>?_)
     clear hK K
     refine nq 71 ?_
     refine oq 25 72 67108863 HT_ (fun K hK=>?_)
     refine gq Try.func30 #[.agg #[.int .i64 n4,.int .i64 n5],.agg #[.int .i64 n6,.int .i64 n7]] ?_
     with_reducible refine (numnahref07_Less.calls n4 n5 n6 n7 false _ x8.out).mono ?_
     rintro e C4 ⟨rfl,hb⟩
     refine ⟨_,rfl,?_⟩
     replace HB:=bB HB hb
     (try clear hb)
     refine hK.out _ _ ⟨(cT HB b5),(cT HB b1),(cT HB d0),(cT HB b9),(cT HB d2),(cT HB d1),(cT HB d3),(cT HB b6),(cT HB d5),(cT HB d4)⟩ (fun hHeld=>?_)
     clear hK K
     refine nq 72 ?_
     refine pq 26 73 134217727 HT_ ?_
     refine done_ (done_of HT_.out (by kernel_rfl)) ?_
     try go_wp2
     go_roundg k2
     case measure=>have:=q7.out;have:=q9.out;omega
     case rel=>exact ⟨(wrap64 (b0 + 1)),rf_,H',⟨by have:=q7.out;have:=q9.out;omega⟩,⟨bl HB⟩⟩
end Go.Proofs.Ytjohcjfmlhihbaa.G
namespace Go.Proofs.Ytjohcjfmlhihbaa.G
open Go.RowKit Go.Proofs.YtjohcjfmlhihbaaW.PrintWords Go.Proofs.YtjohcjfmlhihbaaW.PrintLast Go.Proofs.YtjohcjfmlhihbaaW.PrintMore
set_option maxHeartbeats 8000000
set_option maxRecDepth 100000
attribute [local go_sem] cond_true cond_false fld23_0 fld23_1 fld45_0 fld45_1 fld109_0 fld109_1 fld94_0 fld94_1 max2_int min2_int max_two min_two max_three min_three max_four min_four
def numnahref07_Holder.l0:Nat → List Int → List (S45) → List (S23) → Int → Int → Option (Int)
 | 0,_,_,_,_,_=>none
 | k + 1,x0,x1,x2,x3,x9=>if x9 < (x0.length:Int) then ((numnahref07_Holds.f k x0 x1 x2 x9 x3).bind fun b1=>(if b1 = true then (some x9) else (numnahref07_Holder.l0 k x0 x1 x2 x3 (wrap64 (x9 + 1))))) else (some (-1))
def numnahref07_Holder.f (k:Nat) (l0:List Int) (l1:List (S45)) (l2:List (S23)) (a3:Int):Option (Int):=numnahref07_Holder.l0 k l0 l1 l2 a3 0
theorem numnahref07_Holder.mono_l:∀ k,(∀ y0 y1 y2 y3 y4,LeO (numnahref07_Holder.l0 k y0 y1 y2 y3 y4) (numnahref07_Holder.l0 (k + 1) y0 y1 y2 y3 y4))
 | 0=>fun _ _ _ _ _ r h=>by simp [numnahref07_Holder.l0] at h
 | k + 1=>by
  have b2:=numnahref07_Holder.mono_l k
  intro y0 y1 y2 y3 y4
  unfold numnahref07_Holder.l0
  repeat' first
  | (with_reducible first | exact b2 _ _ _ _ _ | exact numnahref07_Holds.mono _ _ _ _ _ _ | exact LeO.refl _ | exact LeO.none _ | refine LeO.ite ?_ ?_ | refine LeO.bind ?_ (fun _=>?_))
  | exact LeO.none _ | refine LeO.ite ?_ ?_ | refine LeO.bind ?_ (fun _=>?_)
theorem numnahref07_Holder.mono:∀ a0 a1 a2 a3 k,LeO (numnahref07_Holder.f k a0 a1 a2 a3) (numnahref07_Holder.f (k + 1) a0 a1 a2 a3):=by
 intro a0 a1 a2 a3 k
 have b2:=numnahref07_Holder.mono_l k
 unfold numnahref07_Holder.f
 repeat' first
   | (with_reducible first | exact b2 _ _ _ _ _ | exact numnahref07_Holds.mono _ _ _ _ _ _ | exact LeO.refl _ | exact LeO.none _ | refine LeO.ite ?_ ?_ | refine LeO.bind ?_ (fun _=>?_))
   | exact LeO.none _ | refine LeO.ite ?_ ?_ | refine LeO.bind ?_ (fun _=>?_)
theorem numnahref07_Holder.calls (k:Nat) (A0:Option Addr) (c0:Nat) (l0:List Int) (A1:Option Addr) (c1:Nat) (l1:List (S45)) (A2:Option Addr) (c2:Nat) (l2:List (S23)) (a3:Int) (r:Int) (w:World) (b4:Kd.C (Kd.int .i64) w A0 l0.length l0) (b5:l0.length ≤ c0) (b6:Kd.C k45 w A1 l1.length l1) (b7:l1.length ≤ c1) (b8:Kd.C k23 w A2 l2.length l2) (b9:l2.length ≤ c2) (h:numnahref07_Holder.f k l0 l1 l2 a3 = some r) :
  Calls Try.prog 45 #[.slice A0 l0.length c0,.slice A1 l1.length c1,.slice A2 l2.length c2,.int .i64 a3] w fun e w'=>e = .returned (.int .i64 r) ∧ Below w.heap.size w w':=by
 have d0:=A_ b4
 have d1:=A_ b5
 clear b4 b5
 have d2:=A_ b6
 have d3:=A_ b7
 clear b6 b7
 have d4:=A_ b8
 have d5:=A_ b9
 clear b8 b9
 have HB:=A_ (Below.refl w.heap.size w)
 have H:(numnahref07_Holder.l0 k l0 l1 l2 a3 0) = some r:=h
 clear h
 have H':=A_ H
 clear H
 go_enter Try.func45,Try.ntmps45
 go_wp2
 go_loopg [9] k (fun kq v9 w'=>∃ (b0:Int),v9 = .int .i64 b0 ∧ Aside0 (numnahref07_Holder.l0 kq l0 l1 l2 a3 b0 = some r) ∧ Aside0 (kq ≤ k) ∧ Aside0 (Below w.heap.size w w'))
 case atStart=>exact ⟨(0),(by first | rfl | (simp;done) | (simp [*];done)),H',⟨Nat.le_refl _⟩,⟨bl HB⟩⟩
 case round =>
  clear H'
  obtain ⟨b0,rfl,HA,d6,HB⟩:=hrel
  cases gk with
  | zero=>exact absurd HA.out (by simp [numnahref07_Holder.l0])
  | succ k1 =>
   have H:=HA.out
   clear HA
   simp only [numnahref07_Holder.l0] at H
   by_cases c5:b0 < (l0.length:Int)
   case neg =>
    rw [if_neg c5] at H
    have b3:=decide_eq_false c5
    clear c5
    obtain rfl:=Option.some.inj H
    go_wp2
    go_ret
    exact ⟨by first | rfl | (simp [errW_none,errW_some] <;> rfl) | (simp [*,errW_none,errW_some] <;> rfl),bl HB⟩
   rw [if_pos c5] at H
   have b3:=decide_eq_true c5
   clear c5
   replace H:=Option.bind_eq_some_iff.mp H
   obtain ⟨b1,d7,H⟩:=H
   replace H:(if b1 = true then (some b0) else (numnahref07_Holder.l0 k1 l0 l1 l2 a3 (wrap64 (b0 + 1)))) = some r:=H
   have A6:=A_ d7
   clear d7
   by_cases c7:b1 = true
   ·subst c7
    rw [if_pos rfl] at H
    obtain rfl:=Option.some.inj H
    go_wp2_with (first | ((with_reducible refine gate_callee (f:=43) rfl ?_);refine gL (some 21) Try.func43 #[.slice A0 l0.length c0,.slice A1 l1.length c1,.slice A2 l2.length c2,.int .i64 b0,.int .i64 a3] ?_;(with_reducible refine (numnahref07_Holds.calls k1 _ _ l0 _ _ l1 _ _ l2 b0 a3 true _ ?side1 ?side2 ?side3 ?side4 ?side5 ?side6 A6.out).mono ?_);(case side1=>exact cB d0 HB);(case side2=>exact d1.out);(case side3=>exact cB d2 HB);(case side4=>exact d3.out);(case side5=>exact cB d4 HB);(case side6=>exact d5.out);rintro e w8 ⟨rfl,hb⟩;refine ⟨_,rfl,?_⟩;replace HB:=bB HB hb;(try clear hb)))
    go_ret
    exact ⟨by first | rfl | (simp [errW_none,errW_some] <;> rfl) | (simp [*,errW_none,errW_some] <;> rfl),bl HB⟩
   replace c7:=Bool.eq_false_iff.mpr c7
   subst c7
   rw [if_neg (show ¬ (false = true) by decide)] at H
   have H':=A_ H
   clear H
   go_wp2_with (first | ((with_reducible refine gate_callee (f:=43) rfl ?_);refine gL (some 21) Try.func43 #[.slice A0 l0.length c0,.slice A1 l1.length c1,.slice A2 l2.length c2,.int .i64 b0,.int .i64 a3] ?_;(with_reducible refine (numnahref07_Holds.calls k1 _ _ l0 _ _ l1 _ _ l2 b0 a3 false _ ?side1 ?side2 ?side3 ?side4 ?side5 ?side6 A6.out).mono ?_);(case side1=>exact cB d0 HB);(case side2=>exact d1.out);(case side3=>exact cB d2 HB);(case side4=>exact d3.out);(case side5=>exact cB d4 HB);(case side6=>exact d5.out);rintro e w9 ⟨rfl,hb⟩;refine ⟨_,rfl,?_⟩;replace HB:=bB HB hb;(try clear hb)))
   go_roundg k1
   case measure=>have:=d6.out;omega
   case rel=>exact ⟨(wrap64 (b0 + 1)),(by first | rfl | (simp;done) | (simp [*];done)),H',⟨by have:=d6.out;omega⟩,⟨bl HB⟩⟩
end Go.Proofs.Ytjohcjfmlhihbaa.G
set_option linter.unusedSectionVars false
namespace Go.Proofs.Ytjohcjfmlhihbaa.P
open Go Go.RowKit Go.Proofs.Ytjohcjfmlhihbaa.G
open Go.Proofs.YtjohcjfmlhihbaaW.PrintWords Go.Proofs.YtjohcjfmlhihbaaW.PrintMore
theorem S_succ (m:Nat) (f:Nat → Rat):S (m + 1) f = S m f + f m:=by
 unfold S
 rw [List.range_succ,List.map_append,tot_append,List.map_cons,List.map_nil,tot_cons,tot_nil,Rat.add_zero]
theorem S_nil (f:Nat → Rat):S 0 f = 0:=rfl
structure IsN (p:List Int) (u:List S45):Prop where
 p1:1 ≤ p.length
 p5:p.length ≤ 5
 u1:1 ≤ u.length
 u6:u.length ≤ 6
 cap:∀ i (h:i < p.length),0 ≤ p[i] ∧ p[i] ≤ 200
 wt:∀ i (h:i < u.length),1 ≤ u[i].f0 ∧ u[i].f0 ≤ 4
 len:∀ i (h:i < u.length),1 ≤ u[i].f1.length ∧ u[i].f1.length ≤ 5
 pipe:∀ i (h:i < u.length),∀ q ∈ u[i].f1,0 ≤ q ∧ q < (p.length:Int)
theorem isN {p:List Int} {u:List S45} (h:okNet p u = true):IsN p u:=by
 simp only [okNet,Bool.and_eq_true,decide_eq_true_eq,List.all_eq_true,allF_iff] at h
 obtain ⟨⟨⟨⟨⟨h1,h2⟩,h3⟩,h4⟩,h5⟩,h6⟩:=h
 have h7:∀ i (h:i < u.length),okU p.length u[i] = true:=fun i hi=>by
  have:=h6 i (by omega) (by omega)
  rwa [rdT45 hi] at this
 refine ⟨h1,h2,h3,h4,fun i hi=>h5 _ (List.getElem_mem hi),fun i hi=>?_,fun i hi=>?_,fun i hi q hq=>?_⟩
 ·have:=h7 i hi
  simp only [okU,Bool.and_eq_true,decide_eq_true_eq] at this
  omega
 ·have:=h7 i hi
  simp only [okU,Bool.and_eq_true,decide_eq_true_eq] at this
  have h8:=okAt_len this.2
  omega
 ·have:=h7 i hi
  simp only [okU,Bool.and_eq_true,decide_eq_true_eq,allF_iff] at this
  obtain ⟨j,hj,rfl⟩:=List.getElem_of_mem hq
  have h8:=this.2 j (by omega) (by omega)
  simp only [okAt,Bool.and_eq_true,decide_eq_true_eq,rd_get hj] at h8
  exact h8.1
def netOf (p:List Int) (u:List S45):Net where
 n:=p.length
 m:=u.length
 cap:=fun q=>(rd p (q:Int):Rat)
 has:=fun v q=>decide ((q:Int) ∈ (rd_T45 u (v:Int)).f1)
 w:=fun v=>((rd_T45 u (v:Int)).f0:Rat)
def rt (x:List Rat) (v:Nat):Rat:=x.getD v 0
theorem rt_get {x:List Rat} {v:Nat} (h:v < x.length):rt x v = x[v]:=by unfold rt;simp [h]
theorem encT {x:List Rat} {v:Nat} (h:v < x.length):rd_T23 (encL x) (v:Int) = encQ (rt x v):=by
 unfold rd_T23 encL rt
 simp [h]
def part (N:Net) (r:Nat → Rat) (q i:Nat):Rat:=S i (fun v=>if N.has v q then r v else 0)
theorem part_succ (N:Net) (r:Nat → Rat) (q i:Nat):part N r q (i + 1) = if N.has i q then part N r q i + r i else part N r q i:=by
 unfold part
 rw [S_succ]
 split
 ·rfl
 ·rw [Rat.add_zero]
structure OkR (p:List Int) (u:List S45) (x:List Rat):Prop where
 len:x.length = u.length
 fits:∀ q i,i < u.length → Fits (part (netOf p u) (rt x) q i) (rt x i)
 lev:∀ i j,i < u.length → j < u.length → Fits (rt x i / (netOf p u).w i) (rt x j / (netOf p u).w j)
 num:∀ i,i < u.length → (rt x i).num.natAbs < 9223372036854775808
 den:∀ i,i < u.length → (rt x i).den * 4 < 9223372036854775808
def holdsB (N:Net) (r:Nat → Rat) (q i:Nat):Bool:=decide (q < N.n) && N.has i q && decide (N.load r q = N.cap q) && allF (fun v=>!N.has v q || decide (r v / N.w v ≤ r i / N.w i)) N.m 0
theorem holdsB_iff (N:Net) (r:Nat → Rat) (q i:Nat):holdsB N r q i = true ↔ N.Holds r q i:=by
 unfold holdsB Net.Holds
 simp only [Bool.and_eq_true,decide_eq_true_eq,allF_iff,Bool.or_eq_true,Bool.not_eq_true']
 constructor
 ·rintro ⟨⟨⟨h1,h2⟩,h3⟩,h4⟩
  refine ⟨h1,h2,h3,fun v hv hh=>?_⟩
  rcases h4 v (by omega) (by omega) with h | h
  ·rw [hh] at h;cases h
  ·exact h
 ·rintro ⟨h1,h2,h3,h4⟩
  refine ⟨⟨⟨h1,h2⟩,h3⟩,fun v _ hv=>?_⟩
  by_cases hh:N.has v q = true
  ·exact .inr (h4 v (by omega) hh)
  ·exact .inl (by simpa using hh)
def firstI (P:Nat → Bool):Nat → Nat → Int
 | 0,_=>-1
 | d + 1,i=>if P i = true then (i:Int) else firstI P d (i + 1)
theorem num_eq_iff (a b:Rat):(!(a.num == b.num) || (!((a.den:Int) == (b.den:Int)))) = !decide (a = b):=by
 by_cases h:a = b
 ·subst h;simp
 ·rw [decide_eq_false h]
  by_cases h1:a.num = b.num
  ·have h2:a.den ≠ b.den:=fun e=>h (Rat.ext h1 e)
   have h3:((a.den:Int) == (b.den:Int)) = false:=by rw [beq_eq_false_iff_ne];omega
   rw [h3];simp
  ·have h3:(a.num == b.num) = false:=by simpa using h1
   rw [h3];rfl
section
variable {p:List Int} {u:List S45} (hN:IsN p u) {x:List Rat} (hx:OkR p u x)
include hN
theorem has_eq {v:Nat} (hv:v < u.length) (q:Nat):(netOf p u).has v q = decide ((q:Int) ∈ u[v].f1):=by
 show decide ((q:Int) ∈ (rd_T45 u (v:Int)).f1) = _
 rw [rdT45 hv]
theorem ev_hasN {v:Nat} (hv:v < u.length) (q:Nat):Ev (fun k=>shares_net_has.f k p u (v:Int) (q:Int)) ((netOf p u).has v q):=by
 rw [has_eq hN hv]
 exact ev_has hv (by have:=hN.len v hv;omega) (q:Int)
theorem ev_rhasN {v:Nat} (hv:v < u.length) (q:Nat):Ev (fun k=>numnahref07_Has.f k (rd_T45 u (v:Int)).f0 (rd_T45 u (v:Int)).f1 (q:Int)) ((netOf p u).has v q) :=
 ev_rhas (by rw [rdT45 hv];have:=hN.len v hv;omega) (q:Int) (rd_T45 u (v:Int)).f0
include hx
theorem load_l0 (q:Nat):∀ d i,i + d = u.length → Ev (fun k=>shares_net_load.l0 k (encL x) (q:Int) (u.length:Int) (i:Int) p u (part (netOf p u) (rt x) q i).num ((part (netOf p u) (rt x) q i).den:Int)) (((netOf p u).load (rt x) q).num,(((netOf p u).load (rt x) q).den:Int)):=by
 intro d
 have hl:=hx.len
 have hu6:=hN.u6
 induction d with
 | zero =>
  intro i hi
  obtain rfl:i = u.length:=by omega
  refine Ev.step (f:=fun _=>some (((netOf p u).load (rt x) q).num,(((netOf p u).load (rt x) q).den:Int))) (fun k=>?_) (Ev.now _)
  rw [shares_net_load.l0,if_neg (by omega)];rfl
 | succ d ih =>
  intro i hi
  have hil:i < u.length:=by omega
  have hn:=ih (i + 1) (by omega)
  rw [part_succ] at hn
  refine Ev.step (fun k=>?_) (f:=fun k=>(shares_net_has.f k p u (i:Int) (q:Int)).bind fun t=>if t = true then (shares_add.f k (part (netOf p u) (rt x) q i).num ((part (netOf p u) (rt x) q i).den:Int) (rt x i).num ((rt x i).den:Int)).bind fun bt=>shares_net_load.l0 k (encL x) (q:Int) (u.length:Int) ((i + 1:Nat):Int) p u bt.1 bt.2 else shares_net_load.l0 k (encL x) (q:Int) (u.length:Int) ((i + 1:Nat):Int) p u (part (netOf p u) (rt x) q i).num ((part (netOf p u) (rt x) q i).den:Int)) (Ev.bind (ev_hasN hN hil q) ?_)
  ·rw [shares_net_load.l0,if_pos (by omega),if_pos (by omega),if_pos (by rw [encL_length];omega),encT (by omega),wrap_succ (by omega)];rfl
  ·by_cases hh:(netOf p u).has i q = true
   ·rw [if_pos hh] at hn
    refine Ev.congr (fun k=>if_pos hh) (Ev.bind (ev_add (hx.fits q i hil)) hn)
   ·rw [if_neg hh] at hn
    exact Ev.congr (fun k=>if_neg hh) hn
theorem ev_load (q:Nat):Ev (fun k=>shares_net_load.f k p u (encL x) (q:Int)) (((netOf p u).load (rt x) q).num,(((netOf p u).load (rt x) q).den:Int)):=by
 unfold shares_net_load.f shares_whole.f
 simp only [Option.bind_some]
 exact load_l0 hN hx q u.length 0 (by omega)
theorem rload_l0 (q:Nat):∀ d i,i + d = u.length → Ev (fun k=>numnahref07_Load.l0 k u (encL x) (q:Int) (i:Int) (part (netOf p u) (rt x) q i).num ((part (netOf p u) (rt x) q i).den:Int)) (((netOf p u).load (rt x) q).num,(((netOf p u).load (rt x) q).den:Int)):=by
 intro d
 have hl:=hx.len
 have hu6:=hN.u6
 induction d with
 | zero =>
  intro i hi
  obtain rfl:i = u.length:=by omega
  refine Ev.step (f:=fun _=>some (((netOf p u).load (rt x) q).num,(((netOf p u).load (rt x) q).den:Int))) (fun k=>?_) (Ev.now _)
  rw [numnahref07_Load.l0,if_neg (by omega)];rfl
 | succ d ih =>
  intro i hi
  have hil:i < u.length:=by omega
  have hn:=ih (i + 1) (by omega)
  rw [part_succ] at hn
  refine Ev.step (fun k=>?_) (f:=fun k=>(numnahref07_Has.f k (rd_T45 u (i:Int)).f0 (rd_T45 u (i:Int)).f1 (q:Int)).bind fun t=>if t = true then (numnahref07_Add.f k (part (netOf p u) (rt x) q i).num ((part (netOf p u) (rt x) q i).den:Int) (rt x i).num ((rt x i).den:Int)).bind fun bt=>numnahref07_Load.l0 k u (encL x) (q:Int) ((i + 1:Nat):Int) bt.1 bt.2 else numnahref07_Load.l0 k u (encL x) (q:Int) ((i + 1:Nat):Int) (part (netOf p u) (rt x) q i).num ((part (netOf p u) (rt x) q i).den:Int)) (Ev.bind (ev_rhasN hN hil q) ?_)
  ·rw [numnahref07_Load.l0,if_pos (by omega),if_pos (by omega),if_pos (by rw [encL_length];omega),encT (by omega),wrap_succ (by omega)];rfl
  ·by_cases hh:(netOf p u).has i q = true
   ·rw [if_pos hh] at hn
    refine Ev.congr (fun k=>if_pos hh) (Ev.bind (ev_radd (hx.fits q i hil)) hn)
   ·rw [if_neg hh] at hn
    exact Ev.congr (fun k=>if_neg hh) hn
theorem ev_rload (q:Nat):Ev (fun k=>numnahref07_Load.f k u (encL x) (q:Int)) (((netOf p u).load (rt x) q).num,(((netOf p u).load (rt x) q).den:Int)):=by
 unfold numnahref07_Load.f numnahref07_Whole.f
 simp only [Option.bind_some]
 exact rload_l0 hN hx q u.length 0 (by omega)
theorem wt_nat {i:Nat} (hi:i < u.length):∃ n:Nat,0 < n ∧ n ≤ 4 ∧ u[i].f0 = (n:Int) ∧ (netOf p u).w i = (n:Rat):=by
 have:=hN.wt i hi
 refine ⟨u[i].f0.toNat,by omega,by omega,by omega,?_⟩
 show ((rd_T45 u (i:Int)).f0:Rat) = _
 rw [rdT45 hi]
 have e:u[i].f0 = ((u[i].f0.toNat:Nat):Int):=by omega
 rw [e]
 exact Rat.intCast_natCast _
theorem ev_level {i:Nat} (hi:i < u.length):Ev (fun k=>shares_net_level.f k p u (encL x) (i:Int)) ((rt x i / (netOf p u).w i).num,((rt x i / (netOf p u).w i).den:Int)):=by
 obtain ⟨n,n0,n4,e1,e2⟩:=wt_nat hN hx hi
 have hl:=hx.len
 have hd:=hx.den i hi
 unfold shares_net_level.f
 rw [encT (by omega),rdT45 hi,e1,e2]
 refine Ev.congr (fun k=>if_pos (by omega)) (Ev.congr (fun k=>if_pos (by rw [encL_length];omega)) (Ev.congr (fun k=>if_pos (by omega)) ?_))
 refine Ev.bind (ev_over (rt x i) n0 (hx.num i hi) ?_) (Ev.now _)
 have:(rt x i).den * n ≤ (rt x i).den * 4:=Nat.mul_le_mul_left _ n4
 omega
theorem ev_rlevel {i:Nat} (hi:i < u.length):Ev (fun k=>numnahref07_level.f k (rd_T45 u (i:Int)).f0 (rd_T45 u (i:Int)).f1 (rt x i).num ((rt x i).den:Int)) ((rt x i / (netOf p u).w i).num,((rt x i / (netOf p u).w i).den:Int)):=by
 obtain ⟨n,n0,n4,e1,e2⟩:=wt_nat hN hx hi
 have hl:=hx.len
 have hd:=hx.den i hi
 have:(rt x i).den * n ≤ (rt x i).den * 4:=Nat.mul_le_mul_left _ n4
 unfold numnahref07_level.f
 rw [rdT45 hi,e1,e2]
 have e:((rt x i).den:Int) * (n:Int) = (((rt x i).den * n:Nat):Int):=by push_cast;rfl
 rw [e,wrap_nat (by omega)]
 simp only [ref_reduced]
 refine Ev.bind (ev_frac _ _ (Nat.mul_pos (den_pos _) n0) (hx.num i hi) (by omega)) ?_
 rw [mk_over _ n0]
 exact Ev.now _
theorem holds_l0 (q:Nat) {i:Nat} (hi:i < u.length):∀ d v,v + d = u.length → Ev (fun k=>shares_net_holds.l0 k (encL x) (q:Int) (i:Int) (u.length:Int) (v:Int) p u) (allF (fun v=>!(netOf p u).has v q || decide (rt x v / (netOf p u).w v ≤ rt x i / (netOf p u).w i)) d v):=by
 intro d
 have hu6:=hN.u6
 induction d with
 | zero =>
  intro v hv
  refine Ev.step (f:=fun _=>some true) (fun k=>?_) (Ev.now _)
  rw [shares_net_holds.l0,if_neg (by omega)]
 | succ d ih =>
  intro v hv
  have hvl:v < u.length:=by omega
  rw [allF]
  refine Ev.step (fun k=>by rw [shares_net_holds.l0,if_pos (by omega),wrap_succ (by omega)]) (Ev.bind (ev_hasN hN hvl q) ?_)
  by_cases hh:(netOf p u).has v q = true
  ·rw [hh]
   refine Ev.congr (fun k=>if_pos rfl) (Ev.bind (ev_level hN hx hvl) (Ev.bind (ev_level hN hx hi) (Ev.bind (ev_compare (hx.lev v i hvl hi)) ?_)))
   by_cases hc:rt x v / (netOf p u).w v ≤ rt x i / (netOf p u).w i
   ·rw [decide_eq_true hc]
    exact Ev.congr (fun k=>if_neg (by rw [cmpR_gt];exact Rat.not_lt.2 hc)) (ih (v + 1) (by omega))
   ·rw [decide_eq_false hc]
    exact Ev.congr (fun k=>if_pos ((cmpR_gt _ _).2 (Rat.not_le.1 hc))) (Ev.now _)
  ·have hh':(netOf p u).has v q = false:=by simpa using hh
   rw [hh']
   exact Ev.congr (fun k=>if_neg (by decide)) (ih (v + 1) (by omega))
theorem ev_holds (q:Int) {i:Nat} (hi:i < u.length):Ev (fun k=>shares_net_holds.f k p u (encL x) q (i:Int)) (decide (0 ≤ q) && holdsB (netOf p u) (rt x) q.toNat i):=by
 have hp5:=hN.p5
 unfold shares_net_holds.f
 rw [within_eq,wrap_id (by omega) (by omega)]
 simp only [Option.bind_some]
 have no:Ev (fun k=>shares_net_holds.j0 k (encL x) q (i:Int) true p u) false:=by
  refine Ev.step (f:=fun _=>some false) (fun k=>?_) (Ev.now _)
  rw [shares_net_holds.j0];rfl
 by_cases h1:0 ≤ q ∧ q ≤ (p.length:Int) - 1
 ·obtain ⟨n,rfl⟩:=Int.eq_ofNat_of_zero_le h1.1
  have hn:n < p.length:=by omega
  rw [decide_eq_true h1,decide_eq_true h1.1,Int.toNat_natCast,Bool.true_and,holdsB,decide_eq_true (show n < (netOf p u).n from hn),Bool.true_and]
  refine Ev.congr (fun k=>if_pos rfl) (Ev.bind (ev_hasN hN hi n) ?_)
  by_cases hh:(netOf p u).has i n = true
  ·rw [hh,Bool.true_and]
   refine Ev.congr (fun k=>if_pos rfl) (Ev.bind (ev_load hN hx n) ?_)
   unfold shares_whole.f
   refine Ev.congr (fun k=>if_pos (by omega)) (Ev.congr (fun k=>if_pos (by omega)) ?_)
   simp only [Option.bind_some]
   have e:=num_eq_iff ((netOf p u).load (rt x) n) ((netOf p u).cap n)
   rw [show (netOf p u).cap n = ((rd p (n:Int):Int):Rat) from rfl,whole_num,whole_den] at e
   rw [show (((1:Nat):Int)) = 1 from rfl] at e
   rw [e]
   show Ev _ (decide ((netOf p u).load (rt x) n = (netOf p u).cap n) && _)
   rw [show ((rd p (n:Int):Int):Rat) = (netOf p u).cap n from rfl]
   by_cases hc:(netOf p u).load (rt x) n = (netOf p u).cap n
   ·rw [decide_eq_true hc,Bool.true_and]
    refine Ev.step (fun k=>?_) (holds_l0 hN hx n hi u.length 0 (by omega))
    rw [shares_net_holds.j0];rfl
   ·rw [decide_eq_false hc]
    exact no
  ·have hh':(netOf p u).has i n = false:=by simpa using hh
   rw [hh',Bool.false_and,Bool.false_and]
   exact Ev.congr (fun k=>if_neg (by decide)) no
 ·have e:(decide (0 ≤ q) && holdsB (netOf p u) (rt x) q.toNat i) = false:=by
   rw [← Bool.not_eq_true]
   intro h
   rw [Bool.and_eq_true,holdsB_iff,decide_eq_true_eq] at h
   have h2:q.toNat < p.length:=h.2.1
   omega
  rw [e,decide_eq_false h1]
  exact Ev.congr (fun k=>if_neg (by decide)) no
theorem held_l0 {i:Nat} (hi:i < u.length):∀ d q,q + d = p.length → Ev (fun k=>shares_net_held.l0 k (encL x) (i:Int) (p.length:Int) (q:Int) p u) (firstI (fun q=>holdsB (netOf p u) (rt x) q i) d q):=by
 intro d
 have hp5:=hN.p5
 induction d with
 | zero =>
  intro q hq
  refine Ev.step (f:=fun _=>some (-1)) (fun k=>?_) (Ev.now _)
  rw [shares_net_held.l0,if_neg (by omega)]
 | succ d ih =>
  intro q hq
  have h:=ev_holds hN hx (q:Int) hi
  rw [decide_eq_true (by omega:0 ≤ (q:Int)),Bool.true_and,Int.toNat_natCast] at h
  rw [firstI]
  refine Ev.step (fun k=>by rw [shares_net_held.l0,if_pos (by omega),wrap_succ (by omega)]) (Ev.bind h ?_)
  by_cases hh:holdsB (netOf p u) (rt x) q i = true
  ·rw [if_pos hh,hh]
   exact Ev.congr (fun k=>if_pos rfl) (Ev.now _)
  ·rw [if_neg hh]
   exact Ev.congr (fun k=>if_neg hh) (ih (q + 1) (by omega))
theorem ev_held {i:Nat} (hi:i < u.length):Ev (fun k=>shares_net_held.f k p u (encL x) (i:Int)) (firstI (fun q=>holdsB (netOf p u) (rt x) q i) p.length 0):=held_l0 hN hx hi p.length 0 (by omega)
theorem rholds_l0 (q:Nat) {i:Nat} (hi:i < u.length):∀ d v,v + d = u.length → Ev (fun k=>numnahref07_Holds.l0 k u (encL x) (q:Int) (i:Int) (v:Int)) (allF (fun v=>!(netOf p u).has v q || decide (rt x v / (netOf p u).w v ≤ rt x i / (netOf p u).w i)) d v):=by
 intro d
 have hu6:=hN.u6
 have hl:=hx.len
 induction d with
 | zero =>
  intro v hv
  refine Ev.step (f:=fun _=>some true) (fun k=>?_) (Ev.now _)
  rw [numnahref07_Holds.l0,if_neg (by omega)]
 | succ d ih =>
  intro v hv
  have hvl:v < u.length:=by omega
  rw [allF]
  refine Ev.step (fun k=>by rw [numnahref07_Holds.l0,if_pos (by omega),if_pos (by omega),wrap_succ (by omega)]) (Ev.bind (ev_rhasN hN hvl q) ?_)
  by_cases hh:(netOf p u).has v q = true
  ·rw [hh]
   refine Ev.congr (fun k=>if_pos rfl) (Ev.congr (fun k=>if_pos (by omega)) (Ev.congr (fun k=>if_pos (by omega)) (Ev.congr (fun k=>if_pos (by rw [encL_length];omega)) ?_)))
   rw [encT (by omega),encT (by omega)]
   refine Ev.bind (ev_rlevel hN hx hi) (Ev.congr (fun k=>if_pos (by rw [encL_length];omega)) (Ev.bind (ev_rlevel hN hx hvl) ?_))
   simp only [rless (hx.lev i v hi hvl),Option.bind_some]
   by_cases hc:rt x v / (netOf p u).w v ≤ rt x i / (netOf p u).w i
   ·rw [decide_eq_true hc,decide_eq_false (Rat.not_lt.2 hc)]
    exact Ev.congr (fun k=>if_neg (by decide)) (ih (v + 1) (by omega))
   ·rw [decide_eq_false hc,decide_eq_true (Rat.not_le.1 hc)]
    exact Ev.congr (fun k=>if_pos rfl) (Ev.now _)
  ·have hh':(netOf p u).has v q = false:=by simpa using hh
   rw [hh']
   exact Ev.congr (fun k=>if_neg (by decide)) (ih (v + 1) (by omega))
theorem ev_rholds (q:Int) {i:Nat} (hi:i < u.length):Ev (fun k=>numnahref07_Holds.f k p u (encL x) q (i:Int)) (decide (0 ≤ q) && holdsB (netOf p u) (rt x) q.toNat i):=by
 have hp5:=hN.p5
 unfold numnahref07_Holds.f
 have no:Ev (fun k=>numnahref07_Holds.j0 k u (encL x) q (i:Int) true) false:=by
  refine Ev.step (f:=fun _=>some false) (fun k=>?_) (Ev.now _)
  rw [numnahref07_Holds.j0];rfl
 by_cases h1:0 ≤ q ∧ q ≤ (p.length:Int) - 1
 ·obtain ⟨n,rfl⟩:=Int.eq_ofNat_of_zero_le h1.1
  have hn:n < p.length:=by omega
  rw [decide_eq_true h1.1,Int.toNat_natCast,Bool.true_and,holdsB,decide_eq_true (show n < (netOf p u).n from hn),Bool.true_and]
  refine Ev.congr (fun k=>if_neg (by omega)) (Ev.congr (fun k=>if_neg (by omega)) (Ev.congr (fun k=>if_pos (by omega)) (Ev.congr (fun k=>if_pos (by omega)) (Ev.bind (ev_rhasN hN hi n) ?_))))
  by_cases hh:(netOf p u).has i n = true
  ·rw [hh,Bool.true_and]
   refine Ev.congr (fun k=>if_pos rfl) (Ev.bind (ev_rload hN hx n) ?_)
   unfold numnahref07_Whole.f
   refine Ev.congr (fun k=>if_pos (by omega)) (Ev.congr (fun k=>if_pos (by omega)) ?_)
   simp only [Option.bind_some]
   have e:=num_eq_iff ((netOf p u).load (rt x) n) ((netOf p u).cap n)
   rw [show (netOf p u).cap n = ((rd p (n:Int):Int):Rat) from rfl,whole_num,whole_den] at e
   rw [show (((1:Nat):Int)) = 1 from rfl] at e
   rw [e]
   show Ev _ (decide ((netOf p u).load (rt x) n = (netOf p u).cap n) && _)
   rw [show ((rd p (n:Int):Int):Rat) = (netOf p u).cap n from rfl]
   by_cases hc:(netOf p u).load (rt x) n = (netOf p u).cap n
   ·rw [decide_eq_true hc,Bool.true_and]
    refine Ev.step (fun k=>?_) (rholds_l0 hN hx n hi u.length 0 (by omega))
    rw [numnahref07_Holds.j0];rfl
   ·rw [decide_eq_false hc]
    exact no
  ·have hh':(netOf p u).has i n = false:=by simpa using hh
   rw [hh',Bool.false_and,Bool.false_and]
   exact Ev.congr (fun k=>if_neg (by decide)) no
 ·have e:(decide (0 ≤ q) && holdsB (netOf p u) (rt x) q.toNat i) = false:=by
   rw [← Bool.not_eq_true]
   intro h
   rw [Bool.and_eq_true,holdsB_iff,decide_eq_true_eq] at h
   have h2:q.toNat < p.length:=h.2.1
   omega
  rw [e]
  by_cases h0:q < 0
  ·exact Ev.congr (fun k=>if_pos h0) no
  ·exact Ev.congr (fun k=>if_neg h0) (Ev.congr (fun k=>if_pos (by omega)) no)
theorem rholder_l0 {i:Nat} (hi:i < u.length):∀ d q,q + d = p.length → Ev (fun k=>numnahref07_Holder.l0 k p u (encL x) (i:Int) (q:Int)) (firstI (fun q=>holdsB (netOf p u) (rt x) q i) d q):=by
 intro d
 have hp5:=hN.p5
 induction d with
 | zero =>
  intro q hq
  refine Ev.step (f:=fun _=>some (-1)) (fun k=>?_) (Ev.now _)
  rw [numnahref07_Holder.l0,if_neg (by omega)]
 | succ d ih =>
  intro q hq
  have h:=ev_rholds hN hx (q:Int) hi
  rw [decide_eq_true (by omega:0 ≤ (q:Int)),Bool.true_and,Int.toNat_natCast] at h
  rw [firstI]
  refine Ev.step (fun k=>by rw [numnahref07_Holder.l0,if_pos (by omega),wrap_succ (by omega)]) (Ev.bind h ?_)
  by_cases hh:holdsB (netOf p u) (rt x) q i = true
  ·rw [if_pos hh,hh]
   exact Ev.congr (fun k=>if_pos rfl) (Ev.now _)
  ·rw [if_neg hh]
   exact Ev.congr (fun k=>if_neg hh) (ih (q + 1) (by omega))
theorem ev_rholder {i:Nat} (hi:i < u.length):Ev (fun k=>numnahref07_Holder.f k p u (encL x) (i:Int)) (firstI (fun q=>holdsB (netOf p u) (rt x) q i) p.length 0):=rholder_l0 hN hx hi p.length 0 (by omega)
end
end Go.Proofs.Ytjohcjfmlhihbaa.P
set_option linter.unusedSectionVars false
namespace Go.Proofs.Ytjohcjfmlhihbaa.P
open Go Go.RowKit Go.Proofs.Ytjohcjfmlhihbaa.G
open Go.Proofs.YtjohcjfmlhihbaaW.PrintWords Go.Proofs.YtjohcjfmlhihbaaW.PrintMore
def tab {α:Type} (m:Nat) (f:Nat → α):List α:=(List.range m).map f
theorem tab_length {α:Type} (m:Nat) (f:Nat → α):(tab m f).length = m:=by unfold tab;rw [List.length_map,List.length_range]
theorem tab_get {α:Type} {m:Nat} {f:Nat → α} {i:Nat} (h:i < (tab m f).length):(tab m f)[i] = f i:=by simp [tab]
theorem tab_b {m:Nat} {f:Nat → Bool} {i:Nat} (h:i < m):rdOf false (tab m f) (i:Int) = f i:=by
 have h':i < (tab m f).length:=by rw [tab_length];exact h
 unfold rdOf
 rw [Int.toNat_natCast,List.getD_eq_getElem?_getD,List.getElem?_eq_getElem h',Option.getD_some,tab_get]
theorem tab_T {m:Nat} {f:Nat → S23} {i:Nat} (h:i < m):rd_T23 (tab m f) (i:Int) = f i:=by
 rw [rdT (by rw [tab_length];exact h),tab_get]
theorem tab_congr {α:Type} {m:Nat} {f g:Nat → α} (h:∀ v,v < m → f v = g v):tab m f = tab m g:=List.map_congr_left fun v hv=>h v (List.mem_range.1 hv)
theorem tab_set {α:Type} {m:Nat} {f:Nat → α} {i:Nat} (y:α):(tab m f).set i y = tab m (fun v=>if v = i then y else f v):=by
 apply List.ext_getElem
 ·rw [List.length_set,tab_length,tab_length]
 ·intro v h1 h2
  rw [List.getElem_set,tab_get,tab_get]
  by_cases e:i = v
  ·rw [if_pos e,if_pos e.symm]
  ·rw [if_neg e,if_neg (fun h=>e h.symm)]
theorem tab_rep {α:Type} (m:Nat) (y:α):List.replicate m y = tab m (fun _=>y):=by
 apply List.ext_getElem
 ·rw [List.length_replicate,tab_length]
 ·intro v h1 h2
  rw [List.getElem_replicate,tab_get]
theorem encL_tab (m:Nat) (r:Nat → Rat):encL (tab m r) = tab m (fun v=>encQ (r v)):=by unfold encL tab;rw [List.map_map];rfl
theorem rt_tab {m:Nat} {r:Nat → Rat} {v:Nat} (h:v < m):rt (tab m r) v = r v:=by rw [rt_get (by rw [tab_length];exact h),tab_get]
def rts (m:Nat) (z:S23) (fix:Nat → Bool) (r:Nat → Rat):List S23:=tab m (fun v=>if fix v = true then encQ (r v) else z)
def lf (N:Net) (fix:Nat → Bool) (r:Nat → Rat) (q i:Nat):Rat:=N.cap q - S i (fun v=>if N.has v q && fix v then r v else 0)
def wN (N:Net) (u:List S45) (fix:Nat → Bool) (q:Nat):Nat → Nat
 | 0=>0
 | i + 1=>if N.has i q && !fix i then wN N u fix q i + (rd_T45 u (i:Int)).f0.toNat else wN N u fix q i
theorem lf_succ (N:Net) (fix:Nat → Bool) (r:Nat → Rat) (q i:Nat):lf N fix r q (i + 1) = if N.has i q && fix i then lf N fix r q i - r i else lf N fix r q i:=by
 unfold lf
 rw [S_succ]
 split <;> grind
def cnt (m:Nat) (fix:Nat → Bool):Nat:=(List.range m).countP (fun v=>!fix v)
theorem cnt_succ (m:Nat) (fix:Nat → Bool):cnt (m + 1) fix = cnt m fix + if fix m = true then 0 else 1:=by
 unfold cnt
 rw [List.range_succ,List.countP_append,List.countP_cons,List.countP_nil]
 cases fix m <;> simp
theorem cnt_le:∀ (m:Nat) (fix fix2:Nat → Bool),(∀ v,v < m → fix v = true → fix2 v = true) → cnt m fix2 ≤ cnt m fix
 | 0,_,_,_=>Nat.le_refl _
 | m + 1,fix,fix2,h=>by
  have h1:=cnt_le m fix fix2 fun v hv=>h v (by omega)
  have h2:=h m (by omega)
  rw [cnt_succ,cnt_succ]
  cases e:fix m
  ·simp;split <;> omega
  ·rw [h2 e];simp;exact h1
theorem cnt_lt:∀ (m:Nat) (fix fix2:Nat → Bool),(∀ v,v < m → fix v = true → fix2 v = true) → (∃ v,v < m ∧ fix v = false ∧ fix2 v = true) → cnt m fix2 < cnt m fix
 | 0,_,_,_,⟨v,hv,_⟩=>by omega
 | m + 1,fix,fix2,h,⟨v,hv,h1,h2⟩=>by
  rw [cnt_succ,cnt_succ]
  by_cases e:v = m
  ·subst e
   have:=cnt_le v fix fix2 fun w hw=>h w (by omega)
   rw [h1,h2];simp;omega
  ·have h3:=cnt_lt m fix fix2 (fun w hw=>h w (by omega)) ⟨v,by omega,h1,h2⟩
   have h4:=h m (by omega)
   cases e2:fix m
   ·simp;split <;> omega
   ·rw [h4 e2];simp;omega
theorem cnt_m (m:Nat) (fix:Nat → Bool):cnt m fix ≤ m:=by
 have:=List.countP_le_length (p:=fun v=>!fix v) (l:=List.range m)
 rw [List.length_range] at this;exact this
theorem cnt_zero {m:Nat} {fix:Nat → Bool} (h:cnt m fix = 0):∀ v,v < m → fix v = true:=by
 intro v hv
 have:=(List.countP_eq_zero.1 h) v (List.mem_range.2 hv)
 simpa using this
theorem cnt_pos {m:Nat} {fix:Nat → Bool} {v:Nat} (hv:v < m) (h:fix v = false):0 < cnt m fix:=List.countP_pos_iff.2 ⟨v,List.mem_range.2 hv,by rw [h];rfl⟩
section
variable {p:List Int} {u:List S45} (hN:IsN p u)
include hN
theorem w_nat {i:Nat} (hi:i < u.length):(netOf p u).w i = (((rd_T45 u (i:Int)).f0.toNat:Nat):Rat) ∧ (rd_T45 u (i:Int)).f0 = ((rd_T45 u (i:Int)).f0.toNat:Int) ∧ 1 ≤ (rd_T45 u (i:Int)).f0.toNat ∧ (rd_T45 u (i:Int)).f0.toNat ≤ 4:=by
 have:=hN.wt i hi
 rw [← rdT45 hi] at this
 have e:(rd_T45 u (i:Int)).f0 = (((rd_T45 u (i:Int)).f0.toNat:Nat):Int):=by omega
 refine ⟨?_,e,by omega,by omega⟩
 exact (congrArg (fun z:Int=>(z:Rat)) e).trans (Rat.intCast_natCast _)
theorem wpos:∀ v,v < (netOf p u).m → 0 < (netOf p u).w v:=fun v hv=>by
 obtain ⟨e,_,h,_⟩:=w_nat hN hv
 rw [e]
 exact Rat.natCast_pos.2 (by omega)
theorem wN_eq (fix:Nat → Bool) (q:Nat):∀ i,i ≤ u.length → ((wN (netOf p u) u fix q i:Nat):Rat) = S i (fun v=>if (netOf p u).has v q && !fix v then (netOf p u).w v else 0)
 | 0,_=>rfl
 | i + 1,h=>by
  rw [wN,S_succ,← wN_eq fix q i (by omega)]
  split
  ·rw [(w_nat hN (i:=i) (by omega)).1];push_cast;rfl
  ·rw [Rat.add_zero]
theorem wN_W (fix:Nat → Bool) (q:Nat):((wN (netOf p u) u fix q u.length:Nat):Rat) = (netOf p u).W fix q:=wN_eq hN fix q u.length (Nat.le_refl _)
theorem wN_cnt (fix:Nat → Bool) (q:Nat):∀ i,i ≤ u.length → wN (netOf p u) u fix q i ≤ 4 * cnt i fix
 | 0,_=>by rw [wN];omega
 | i + 1,h=>by
  have h1:=wN_cnt fix q i (by omega)
  have h2:=(w_nat hN (i:=i) (by omega)).2.2.2
  rw [wN,cnt_succ]
  cases (netOf p u).has i q <;> cases fix i <;> simp <;> omega
theorem lf_left (fix:Nat → Bool) (r:Nat → Rat) (q:Nat):lf (netOf p u) fix r q u.length = (netOf p u).left fix r q:=rfl
structure FS (p:List Int) (u:List S45) (fix:Nat → Bool) (r:Nat → Rat) (lam:Rat) (D:Nat):Prop where
 fill:(netOf p u).Fill fix r lam
 lam0:0 ≤ lam
 rb:∀ v,v < u.length → fix v = true → 0 ≤ r v ∧ r v ≤ ((200:Nat):Rat) ∧ (r v).den ∣ D
 d0:0 < D
 dd:D * dens (cnt u.length fix) ≤ 2949120
theorem dens_pos:∀ k,1 ≤ dens k
 | 0=>Nat.le_refl _
 | k + 1=>by have:=dens_pos k;rw [dens];exact Nat.mul_pos (by omega) this
theorem cap_bd {q:Nat} (hq:q < p.length):0 ≤ (netOf p u).cap q ∧ (netOf p u).cap q ≤ ((200:Nat):Rat) ∧ ((netOf p u).cap q).den = 1:=by
 have h:=hN.cap q hq
 rw [← rd_get hq] at h
 refine ⟨?_,?_,?_⟩
 ·show (0:Rat) ≤ ((rd p (q:Int):Int):Rat)
  have:=cast_le h.1;simpa using this
 ·show ((rd p (q:Int):Int):Rat) ≤ _
  have:=cast_le h.2;simpa using this
 ·show ((rd p (q:Int):Int):Rat).den = 1
  exact whole_den _
variable {fix:Nat → Bool} {r:Nat → Rat} {lam:Rat} {D:Nat} (hF:FS p u fix r lam D)
include hF
theorem FS.D_le:D ≤ 2949120:=by
 have h1:=dens_pos hN (cnt u.length fix)
 have h2:=hF.dd
 have:D * 1 ≤ D * dens (cnt u.length fix):=Nat.mul_le_mul_left _ h1
 omega
theorem lf_bd {q:Nat} (hq:q < p.length):∀ i,i ≤ u.length → lf (netOf p u) fix r q i ≤ ((200:Nat):Rat) ∧ -((200 * i:Nat):Rat) ≤ lf (netOf p u) fix r q i ∧ (lf (netOf p u) fix r q i).den ∣ D
 | 0,_=>by
  obtain ⟨h1,h2,h3⟩:=cap_bd hN hq
  have e:lf (netOf p u) fix r q 0 = (netOf p u).cap q:=by unfold lf;rw [S_nil];grind
  rw [e,h3]
  refine ⟨h2,?_,Nat.one_dvd _⟩
  rw [show ((200 * 0:Nat):Rat) = 0 from rfl];grind
 | i + 1,h=>by
  obtain ⟨h1,h2,h3⟩:=lf_bd hq i (by omega)
  have e:((200 * (i + 1):Nat):Rat) = ((200 * i:Nat):Rat) + ((200:Nat):Rat):=by push_cast;grind
  have z:(0:Rat) ≤ ((200:Nat):Rat):=Rat.natCast_nonneg
  rw [lf_succ,e]
  by_cases hc:((netOf p u).has i q && fix i) = true
  ·rw [if_pos hc]
   have hfi:fix i = true:=by rw [Bool.and_eq_true] at hc;exact hc.2
   obtain ⟨a,b,c⟩:=hF.rb i (by omega) hfi
   exact ⟨by grind,by grind,sub_den_dvd' h3 c hF.d0⟩
  ·rw [if_neg hc]
   exact ⟨h1,by grind,h3⟩
theorem lf_num {q:Nat} (hq:q < p.length) {i:Nat} (hi:i ≤ u.length):(lf (netOf p u) fix r q i).num.natAbs ≤ 3538944000 ∧ (lf (netOf p u) fix r q i).den ≤ 2949120:=by
 obtain ⟨h1,h2,h3⟩:=lf_bd hN hF hq i hi
 have h6:=hN.u6
 have hD:=hF.D_le hN
 have hd:(lf (netOf p u) fix r q i).den ≤ 2949120:=Nat.le_trans (Nat.le_of_dvd hF.d0 h3) hD
 have e1:((200 * i:Nat):Rat) ≤ ((1200:Nat):Rat):=Rat.natCast_le_natCast.2 (by omega)
 have e2:((200:Nat):Rat) ≤ ((1200:Nat):Rat):=Rat.natCast_le_natCast.2 (by omega)
 have h5:=num_bound (B:=1200) (by grind) (Rat.le_trans h1 e2)
 have:1200 * (lf (netOf p u) fix r q i).den ≤ 1200 * 2949120:=Nat.mul_le_mul_left _ hd
 exact ⟨by omega,hd⟩
theorem r_num {v:Nat} (hv:v < u.length) (hf:fix v = true):(r v).num.natAbs ≤ 589824000 ∧ (r v).den ≤ 2949120:=by
 obtain ⟨h1,h2,h3⟩:=hF.rb v hv hf
 have hD:=hF.D_le hN
 have hd:(r v).den ≤ 2949120:=Nat.le_trans (Nat.le_of_dvd hF.d0 h3) hD
 have z:(0:Rat) ≤ ((200:Nat):Rat):=Rat.natCast_nonneg
 have h5:=num_bound (B:=200) (by grind) h2
 have:200 * (r v).den ≤ 200 * 2949120:=Nat.mul_le_mul_left _ hd
 exact ⟨by omega,hd⟩
theorem lf_fits {q:Nat} (hq:q < p.length) {i:Nat} (hi:i < u.length) (hf:fix i = true):Fits (lf (netOf p u) fix r q i) (r i):=by
 have a:=lf_num hN hF hq (i:=i) (by omega)
 have b:=r_num hN hF hi hf
 exact ⟨Nat.lt_of_le_of_lt (Nat.add_le_add (Nat.mul_le_mul a.1 b.2) (Nat.mul_le_mul b.1 a.2)) (by decide),Nat.lt_of_le_of_lt (Nat.mul_le_mul a.2 b.2) (by decide)⟩
def muq (p:List Int) (u:List S45) (fix:Nat → Bool) (r:Nat → Rat) (q:Nat):Rat:=lf (netOf p u) fix r q u.length / ((wN (netOf p u) u fix q u.length:Nat):Rat)
theorem wN_le {q:Nat} (hw:wN (netOf p u) u fix q u.length ≠ 0):D * wN (netOf p u) u fix q u.length ≤ 2949120 ∧ 0 < cnt u.length fix:=by
 have h1:=wN_cnt hN fix q u.length (Nat.le_refl _)
 have h2:0 < cnt u.length fix:=by omega
 have h3:=dens_step hF.dd h1 h2
 rw [show dens 0 = 1 from rfl,Nat.mul_one] at h3
 exact ⟨h3,h2⟩
theorem mu_num {q:Nat} (hq:q < p.length) (hw:wN (netOf p u) u fix q u.length ≠ 0):(muq p u fix r q).num.natAbs ≤ 3538944000 ∧ (muq p u fix r q).den ≤ 2949120 ∧ (muq p u fix r q).den ∣ D * wN (netOf p u) u fix q u.length ∧ muq p u fix r q ≤ ((200:Nat):Rat):=by
 obtain ⟨h1,h2,h3⟩:=lf_bd hN hF hq u.length (Nat.le_refl _)
 have h6:=hN.u6
 have hw0:0 < wN (netOf p u) u fix q u.length:=by omega
 obtain ⟨h4,_⟩:=wN_le hN hF hw
 have hdv:(muq p u fix r q).den ∣ D * wN (netOf p u) u fix q u.length:=Nat.dvd_trans (over_den _ hw0) (Nat.mul_dvd_mul_right h3 _)
 have hd:(muq p u fix r q).den ≤ 2949120:=Nat.le_trans (Nat.le_of_dvd (Nat.mul_pos hF.d0 hw0) hdv) h4
 have e1:((200 * u.length:Nat):Rat) ≤ ((1200:Nat):Rat):=Rat.natCast_le_natCast.2 (by omega)
 have e2:((200:Nat):Rat) ≤ ((1200:Nat):Rat):=Rat.natCast_le_natCast.2 (by omega)
 have z:(0:Rat) ≤ ((200:Nat):Rat):=Rat.natCast_nonneg
 have z2:(0:Rat) ≤ ((1200:Nat):Rat):=Rat.natCast_nonneg
 have hwr:(1:Rat) ≤ ((wN (netOf p u) u fix q u.length:Nat):Rat):=by
  have:=Rat.natCast_le_natCast (a:=1) (b:=wN (netOf p u) u fix q u.length)
  have h:=this.2 hw0
  simpa using h
 have hm:muq p u fix r q * ((wN (netOf p u) u fix q u.length:Nat):Rat) = lf (netOf p u) fix r q u.length:=by
  unfold muq
  exact Rat.div_mul_cancel (by grind)
 have up:muq p u fix r q ≤ ((200:Nat):Rat):=by
  by_cases hs:muq p u fix r q ≤ 0
  ·exact Rat.le_trans hs z
  ·have hs':0 ≤ muq p u fix r q:=by grind
   have:=Rat.mul_le_mul_of_nonneg_left hwr hs'
   grind
 have lo:-((1200:Nat):Rat) ≤ muq p u fix r q:=by
  by_cases hs:0 ≤ muq p u fix r q
  ·grind
  ·have hs':0 ≤ -muq p u fix r q:=by grind
   have:=Rat.mul_le_mul_of_nonneg_left hwr hs'
   grind
 have h5:=num_bound (B:=1200) lo (Rat.le_trans up e2)
 have:1200 * (muq p u fix r q).den ≤ 1200 * 2949120:=Nat.mul_le_mul_left _ hd
 exact ⟨by omega,hd,hdv,up⟩
theorem mu_fits {q q2:Nat} (hq:q < p.length) (hw:wN (netOf p u) u fix q u.length ≠ 0) (hq2:q2 < p.length) (hw2:wN (netOf p u) u fix q2 u.length ≠ 0):Fits (muq p u fix r q) (muq p u fix r q2):=by
 have a:=mu_num hN hF hq hw
 have b:=mu_num hN hF hq2 hw2
 exact ⟨Nat.lt_of_le_of_lt (Nat.add_le_add (Nat.mul_le_mul a.1 b.2.1) (Nat.mul_le_mul b.1 a.2.1)) (by decide),Nat.lt_of_le_of_lt (Nat.mul_le_mul a.2.1 b.2.1) (by decide)⟩
theorem mu_mul {q:Nat} (hw:wN (netOf p u) u fix q u.length ≠ 0):muq p u fix r q * (netOf p u).W fix q = (netOf p u).left fix r q:=by
 rw [← wN_W hN]
 have:((wN (netOf p u) u fix q u.length:Nat):Rat) ≠ 0:=by
  intro e
  have:=Rat.natCast_eq_zero_iff.1 e
  exact hw this
 exact Rat.div_mul_cancel this
theorem W_pos_iff {q:Nat}:0 < (netOf p u).W fix q ↔ wN (netOf p u) u fix q u.length ≠ 0:=by
 rw [← wN_W hN,Rat.natCast_pos]
 omega
end
end Go.Proofs.Ytjohcjfmlhihbaa.P
