/- Several texts, joined. -/
import Derived.WalkKit
import Derived.KernelRfl
import Derived.Below
import Derived.Deep.Draws
import Derived.Deep.AppendLies
import Derived.Maps.AppendAt
import Derived.OwnWalk
import Derived.Laws.BytesArg
import Derived.Laws.MakeOwn
import Derived.Laws.OwnMore
import Derived.Deep.OwnRows
import Derived.Tactics
import Derived.Lib.ConvBytes
import Derived.Laws.Slices
import Derived.RowKit3
import Derived.Deep.LoopGhost
import Derived.Deep.QuietTactic
import Derived.BigQuiet
import Derived.WideLaws
import Derived.Deep.DeepCutAuto
import Derived.Deep.CutBlock
import Derived.Deep.RegionHeld3
import Derived.Laws.Rows
import Derived.Lib.AppendStr
import Derived.ArgAppend
import Derived.Laws.IdiomCopy
import Derived.OrdersHeld
import Derived.Laws.BitsLemmas
import Derived.RowKit
import Derived.Lib.Hide
import Derived.WalkSpells
import Derived.WalkLawsBesides
import Derived.Deep.DeepFit
import Derived.OwnWalkIn
import Derived.TacticsInMore
import Derived.LoopNIn
import Derived.LoopIn
import Derived.Sort.QuietIn
import Derived.Sort.BigQuietIn
import Derived.Sort.QuietTacIn
import Derived.Sort.LoopGhostIn
import Derived.Stop.RegionWithIn
import Derived.Maps.OwnIn
import Derived.Shelf.Abstract
import Derived.Shelf.RegionOpen
import Derived.RangeFuncRecord
import Derived.Test.YtjohcjfmlhihbaaProg
import Derived.Test.YtjohcjfmlhihbaaVA
import Derived.Test.YtjohcjfmlhihbaaQS1
set_option linter.unusedVariables false
set_option linter.unusedSimpArgs false
namespace Go.Proofs.Ytjohcjfmlhihbaa.G
open Go
theorem fld23_0 (x y:Value) (w:World):(Instr.field 23 (.agg #[x,y]) 0).run Try.prog w = .ok x w:=by kernel_rfl
theorem fld23_1 (x y:Value) (w:World):(Instr.field 23 (.agg #[x,y]) 1).run Try.prog w = .ok y w:=by kernel_rfl
theorem fld45_0 (x y:Value) (w:World):(Instr.field 45 (.agg #[x,y]) 0).run Try.prog w = .ok x w:=by kernel_rfl
theorem fld45_1 (x y:Value) (w:World):(Instr.field 45 (.agg #[x,y]) 1).run Try.prog w = .ok y w:=by kernel_rfl
theorem fld109_0 (x y:Value) (w:World):(Instr.field 109 (.agg #[x,y]) 0).run Try.prog w = .ok x w:=by kernel_rfl
theorem fld109_1 (x y:Value) (w:World):(Instr.field 109 (.agg #[x,y]) 1).run Try.prog w = .ok y w:=by kernel_rfl
theorem fld94_0 (x y:Value) (w:World):(Instr.field 94 (.agg #[x,y]) 0).run Try.prog w = .ok x w:=by kernel_rfl
theorem fld94_1 (x y:Value) (w:World):(Instr.field 94 (.agg #[x,y]) 1).run Try.prog w = .ok y w:=by kernel_rfl
end Go.Proofs.Ytjohcjfmlhihbaa.G
namespace Go.Proofs.Ytjohcjfmlhihbaa.G
open Go.RowKit Go.Proofs.YtjohcjfmlhihbaaW.PrintWords Go.Proofs.YtjohcjfmlhihbaaW.PrintLast Go.Proofs.YtjohcjfmlhihbaaW.PrintMore
attribute [local go_sem] fld23_0 fld23_1 fld45_0 fld45_1 fld109_0 fld109_1 fld94_0 fld94_1 max2_int min2_int max_two min_two max_three min_three max_four min_four   -- for this text's walks alone
set_option linter.unusedVariables false
set_option linter.unusedSimpArgs false
def errW:Option Int → Value
 | none=>.nilIface
 | some c=>.iface 0 (.int .i64 c)
theorem errW_none:errW none = .nilIface:=rfl
theorem errW_some (c:Int):errW (some c) = .iface 0 (.int .i64 c):=rfl
theorem info3:(Try.prog.info? 3).map (fun i=>(i.zero,i.size,i.bytes)) = some (some (.int .i64 0),1,8):=by kernel_rfl
theorem info4:(Try.prog.info? 4).map (fun i=>(i.zero,i.size,i.bytes)) = some (some (.bool false),1,1):=by kernel_rfl
theorem info23:(Try.prog.info? 23).map (fun i=>(i.zero,i.size,i.bytes)) = some (some (.agg #[(.int .i64 0),(.int .i64 0)]),2,16):=by kernel_rfl
structure S23 where
 f0:Int
 f1:Int
def z23:S23:=⟨(0:Int),(0:Int)⟩
def k23:Kd S23:=Kd.iso (Kd.pair (Kd.int .i64) (Kd.int .i64)) (fun x:S23=>(x.f0,x.f1))
theorem k23_heap:Kd.Heap k23:=Kd.heap_iso _ (Kd.heap_pair (Kd.heap_int .i64) (Kd.heap_int .i64))
theorem k23_open {w:World} {x:S23} {cs:List Value} (h:k23.K w x cs):cs = [.int .i64 x.f0,.int .i64 x.f1]:=by
 obtain ⟨_,_,rfl,rfl,rfl⟩:=h
 exact rfl
theorem k23_openM {w:World} {base:Nat} {ok:Nat → Prop} {x:S23} {cs:List Value} (h:k23.M w base ok x cs):cs = [.int .i64 x.f0,.int .i64 x.f1]:=by
 obtain ⟨_,_,rfl,rfl,rfl⟩:=h
 exact rfl
theorem k23_mkM (w:World) (base:Nat) (ok:Nat → Prop) (x:S23)  : k23.M w base ok x [.int .i64 x.f0,.int .i64 x.f1]:=⟨[.int .i64 x.f0],[.int .i64 x.f1],rfl,rfl,rfl⟩
def rd_T23 (xs:List S23) (i:Int):S23:=xs.getD i.toNat z23
theorem at_T23 {w:World} {A:Option Addr} {n:Nat} {xs:List S23} (h:Kd.C k23 w A n xs) (i:Int) (h0:0 ≤ i) (h1:i < n):∃ ad , A = some ad ∧ w.cell? (ad.add (i.toNat * 2)) = some (.int .i64 (rd_T23 xs i).f0) ∧ w.cell? ⟨(ad.add (i.toNat * 2)).block,(ad.add (i.toNat * 2)).off + 1,none⟩ = some (.int .i64 (rd_T23 xs i).f1):=by
 obtain ⟨ad,c,e,_,hK,hc0⟩:=Kd.C_get h z23 i h0 h1
 have hc:∀ j u,c[j]? = some u → w.cell? (ad.add (i.toNat * 2 + j)) = some u:=hc0
 obtain rfl:=k23_open hK
 exact ⟨ad,e,hc 0 _ rfl,by rw [← add_field _ _ 1 (by omega)];exact hc 1 _ rfl⟩
structure S45 where
 f0:Int
 f1:(List Int)
def z45:S45:=⟨(0:Int),([]:List Int)⟩
def k45:Kd S45:=Kd.iso (Kd.pair (Kd.int .i64) (Kd.slice 3 (Kd.int .i64))) (fun x:S45=>(x.f0,x.f1))
theorem k45_open {w:World} {x:S45} {cs:List Value} (h:k45.K w x cs):∃ A1 c1,cs = [.int .i64 x.f0,.slice A1 x.f1.length c1] ∧ x.f1.length ≤ c1 ∧ (Kd.int .i64).C w A1 x.f1.length x.f1:=by
 obtain ⟨_,_,rfl,rfl,⟨A1,c1,rfl,l1,g1⟩⟩:=h
 exact ⟨A1,c1,rfl,l1,g1⟩
def rd_T45 (xs:List S45) (i:Int):S45:=xs.getD i.toNat z45
theorem at_T45 {w:World} {A:Option Addr} {n:Nat} {xs:List S45} (h:Kd.C k45 w A n xs) (i:Int) (h0:0 ≤ i) (h1:i < n):∃ ad A1 c1,A = some ad ∧ w.cell? (ad.add (i.toNat * 2)) = some (.int .i64 (rd_T45 xs i).f0) ∧ w.cell? ⟨(ad.add (i.toNat * 2)).block,(ad.add (i.toNat * 2)).off + 1,none⟩ = some (.slice A1 (rd_T45 xs i).f1.length c1) ∧ (rd_T45 xs i).f1.length ≤ c1 ∧ (Kd.int .i64).C w A1 (rd_T45 xs i).f1.length (rd_T45 xs i).f1:=by
 obtain ⟨ad,c,e,_,hK,hc0⟩:=Kd.C_get h z45 i h0 h1
 have hc:∀ j u,c[j]? = some u → w.cell? (ad.add (i.toNat * 2 + j)) = some u:=hc0
 obtain ⟨A1,c1,rfl,l1,g1⟩:=k45_open hK
 exact ⟨ad,A1,c1,e,hc 0 _ rfl,by rw [← add_field _ _ 1 (by omega)];exact hc 1 _ rfl,l1,g1⟩
end Go.Proofs.Ytjohcjfmlhihbaa.G
namespace Go.Proofs.Ytjohcjfmlhihbaa.G
open Go Go.RowKit Go.Proofs.YtjohcjfmlhihbaaW.PrintWords Go.Proofs.YtjohcjfmlhihbaaW.PrintLast
/-- A row of n Booleans,as the digits of a number. -/
def ba (n m:Nat):Array Bool:=((List.range n).map fun i=>m.testBit i).toArray
theorem pu0 (a:Act) (d:Tmp) (v:Value):Act.put a (some d) v = { a with tmps:=a.tmps.setIfInBounds d v }:=rfl
theorem la {α:Type} {l:List α} {i:Nat} {a:α}:l.toArray.setIfInBounds i a = (l.set i a).toArray:=List.setIfInBounds_toArray ..
theorem lb {α:Type} {x:α} {xs:List α} {a:α}:(x :: xs).set 0 a = a :: xs:=List.set_cons_zero
theorem lc {α:Type} {x:α} {xs:List α} {i:Nat} {a:α}:(x :: xs).set (i + 1) a = x :: xs.set i a:=List.set_cons_succ
theorem A_ {p:Prop} (h:p):Aside0 p:=⟨h⟩
end Go.Proofs.Ytjohcjfmlhihbaa.G
namespace Go.Proofs.Ytjohcjfmlhihbaa.G
open Go Go.RowKit Go.Proofs.YtjohcjfmlhihbaaW.PrintWords Go.Proofs.YtjohcjfmlhihbaaW.PrintLast Go.Proofs.YtjohcjfmlhihbaaW.PrintMore
theorem gd {α:Type} {c:Prop} [Decidable c] {e:Option α} {r:α} (H:(if c then e else none) = some r):c ∧ e = some r:=by by_cases h:c <;> simp_all
theorem ge {α:Type} {c:Prop} [Decidable c] {e:Option α} {r:α} (H:(if c then none else e) = some r):¬ c ∧ e = some r:=by by_cases h:c <;> simp_all
section
variable {α:Type} {d:Kd α} {e base n i:Nat} {ok:Nat → Prop} {w W W' w2:World} {v:Value} {xs:List α} {A:Option Addr} {g g':Nat} {o:Obj} {t:TypeId} {cs:Array Value} {x:Value}
theorem bl (h:Aside0 (Below w.heap.size w W)) (s:Below w.heap.size w W → Below w.heap.size w W':=by intro h_;repeat (first | (with_reducible first | exact h_ | apply below_alloc | apply pw_below_drewN | apply below_drew1 | refine below_set ?_ (Aside0.out (by assumption))) | exact h_)):Below w.heap.size w W':=s h.out
theorem bB (h:Aside0 (Below w.heap.size w W)) (hb:Below W'.heap.size W' w2) (s:Below w.heap.size w W → Below w.heap.size w W':=by intro h_;repeat (first | (with_reducible first | exact h_ | apply below_alloc | apply pw_below_drewN | apply below_drew1 | refine below_set ?_ (Aside0.out (by assumption))) | exact h_)):Aside0 (Below w.heap.size w w2):=⟨below_step (s h.out) hb⟩
theorem gw (hg:g = W'.heap.size) (h:Aside0 (Below w.heap.size w W)) (s:Below w.heap.size w W → Below w.heap.size w W':=by intro h_;repeat (first | (with_reducible first | exact h_ | apply below_alloc | apply pw_below_drewN | apply below_drew1 | refine below_set ?_ (Aside0.out (by assumption))) | exact h_)):Aside0 (w.heap.size ≤ g):=⟨hg ▸ below_size (s h.out)⟩
theorem kB (h:Aside0 (W.heap[g]? = some o)) (hb:Below W'.heap.size W' w2) (s:W.heap[g]? = some o → W'.heap[g]? = some o:=by intro h_;repeat (first | (with_reducible first | exact h_ | refine blk_drewN ?_ _ | refine blk_drew ?_ | refine blk_alloc ?_ _ | refine blk_far ?_ (Aside0.out (by assumption)) _) | exact h_)):Aside0 (w2.heap[g]? = some o):=⟨blk_below (s h.out) hb⟩
theorem nl (hg:g' = W'.heap.size) (h:Aside0 (W.heap[g]? = some o)) (s:W.heap[g]? = some o → W'.heap[g]? = some o:=by intro h_;repeat (first | (with_reducible first | exact h_ | refine blk_drewN ?_ _ | refine blk_drew ?_ | refine blk_alloc ?_ _ | refine blk_far ?_ (Aside0.out (by assumption)) _) | exact h_)):Aside0 (g ≠ g'):=⟨by rw [hg];exact Nat.ne_of_lt (blk_lt (s h.out))⟩
theorem ng (hg:g' = W'.heap.size) (h:Aside0 (W.heap[g]? = some o)) (s:W.heap[g]? = some o → W'.heap[g]? = some o:=by intro h_;repeat (first | (with_reducible first | exact h_ | refine blk_drewN ?_ _ | refine blk_drew ?_ | refine blk_alloc ?_ _ | refine blk_far ?_ (Aside0.out (by assumption)) _) | exact h_)):Aside0 (g' ≠ g):=⟨by rw [hg];exact Nat.ne_of_gt (blk_lt (s h.out))⟩
theorem rB (h:Aside0 (d.R e W base ok v xs)) (hb:Below W'.heap.size W' w2) (s:d.R e W base ok v xs → d.R e W' base ok v xs:=by intro h_;(with_reducible repeat (first | apply Kd.R_alloc | apply Kd.R_drewN | apply Kd.R_drew));exact h_):Aside0 (d.R e w2 base ok v xs):=⟨Kd.R_below (s h.out) hb⟩
theorem nB (h:Aside0 (Kd.N d e W base ok v xs)) (hb:Below W'.heap.size W' w2) (s:Kd.N d e W base ok v xs → Kd.N d e W' base ok v xs:=by intro h_;(with_reducible repeat (first | apply Kd.N_alloc | apply Kd.N_drewN | apply Kd.N_drew));exact h_):Aside0 (Kd.N d e w2 base ok v xs):=⟨Kd.N_below (s h.out) hb⟩
theorem rs (h:Aside0 (d.R e W base ok v xs)) (s:d.R e W base ok v xs → d.R e W' base ok v xs:=by intro h_;(with_reducible repeat (first | apply Kd.R_alloc | apply Kd.R_drewN | apply Kd.R_drew));exact h_):d.R e W' base ok v xs:=s h.out
theorem ns (h:Aside0 (Kd.N d e W base ok v xs)) (s:Kd.N d e W base ok v xs → Kd.N d e W' base ok v xs:=by intro h_;(with_reducible repeat (first | apply Kd.N_alloc | apply Kd.N_drewN | apply Kd.N_drew));exact h_):Kd.N d e W' base ok v xs:=s h.out
theorem cB (h:Aside0 (d.C w A n xs)) (hb:Aside0 (Below w.heap.size w W)) (s:d.C W A n xs → d.C W' A n xs:=by intro h_;repeat (first | exact h_ | (with_reducible refine Kd.C_alloc ?_ _) | (with_reducible refine Kd.C_drewN ?_ _) | (with_reducible refine Kd.C_drew ?_))):d.C W' A n xs:=s (Kd.C_below h.out hb.out)
theorem kD (h:Aside0 (W.heap[g]? = some o)):Aside0 (W.drew.heap[g]? = some o):=⟨blk_drew h.out⟩
theorem rD (h:Aside0 (d.R e W base ok v xs)):Aside0 (d.R e W.drew base ok v xs):=⟨Kd.R_drew h.out⟩
theorem nD (h:Aside0 (Kd.N d e W base ok v xs)):Aside0 (Kd.N d e W.drew base ok v xs):=⟨Kd.N_drew h.out⟩
theorem bD (h:Aside0 (Below n w W)):Aside0 (Below n w W.drew):=⟨below_drew1 h.out⟩
theorem kb (h:Aside0 (W.heap[g]? = some o)) (s:W.heap[g]? = some o → W'.heap[g]? = some o:=by intro h_;repeat (first | (with_reducible first | exact h_ | refine blk_drewN ?_ _ | refine blk_drew ?_ | refine blk_alloc ?_ _ | refine blk_far ?_ (Aside0.out (by assumption)) _) | exact h_)):W'.heap[g]? = some o:=s h.out
theorem cz (h:Aside0 (W.heap[g]? = some (.cells cs t (0,0)))) (i:Nat) (e_:cs[i]? = some x:=by rfl):W.cell? ⟨g,i,none⟩ = some x:=(blk_cell h.out i).trans e_
end
section
variable {P:Program} {ops:Array Oper} {Q:Exit → Act → World → Prop} {md:Region.Mode} {S:World → Prop} {ds:List Nat} {T:Bool × List (List Nat × List Nat)} {B:List Nat} {oi:Oper} {v:Value} {fuel n m:Nat} {a a':Act} {w:World}
theorem pq (i:Nat) (N:Tmp) (m':Nat) (HT:Aside0 (rtab md ops = T)) (h:wpAnyLast P md ops Q S ds fuel (ba n m') a' w) (hi:ops[i]? = some oi:=by rfl) (hN:oi.dst = some N:=by rfl) (hc:anyT T (ba n m).toList (ba n m').toList i = true:=by kernel_rfl)
    (hQ:∀ c a w,Q (.panic c) (a.put oi.dst v) w → Q (.panic c) a w:=by exact fun _ _ _ h=>h) (hy:Yields P ops oi v a:=by refine Or.inl ⟨by rfl,?_⟩;intro w';go_simp;with_reducible rfl) (ha:a.put (some N) v = a':=by simp only [pu0,la,lb,lc,i64_w,i32_w];rfl) :
    wpAnyLast P md ops Q S ds (fuel + 1) (ba n m) a w:=pure_ _ hi hN (any_of HT.out hc) hQ hy ha h
theorem pu (i:Nat) (N:Tmp) (m':Nat) (HT:Aside0 (rtab md ops = T)) (h:wpAnyLast P md ops Q S ds fuel (ba n m') a' w) (hi:ops[i]? = some oi:=by rfl) (hN:oi.dst = some N:=by rfl) (hc:anyT T (ba n m).toList (ba n m').toList i = true:=by kernel_rfl)
    (hQ:∀ c a w,Q (.panic c) (a.put oi.dst undef) w → Q (.panic c) a w:=by exact fun _ _ _ h=>h) (hy:Yields P ops oi undef a:=by exact Or.inr ⟨by rfl,rfl⟩) (ha:a.put (some N) undef = a':=by simp only [pu0,la,lb,lc,i64_w,i32_w];rfl) :
    wpAnyLast P md ops Q S ds (fuel + 1) (ba n m) a w:=pure_ _ hi hN (any_of HT.out hc) hQ hy ha h
theorem pr (i:Nat) (N:Tmp) (m':Nat) (h:wpAnyLast P md ops Q S ds fuel (ba n m') a' w) (hi:ops[i]? = some oi:=by rfl) (hN:oi.dst = some N:=by rfl) (hc:anyB md ops (ba n m) (ba n m') i = true:=by kernel_rfl)
    (hQ:∀ c a w,Q (.panic c) (a.put oi.dst v) w → Q (.panic c) a w:=by exact fun _ _ _ h=>h) (hy:Yields P ops oi v a:=by refine Or.inl ⟨by rfl,?_⟩;intro w';go_simp;with_reducible rfl) (ha:a.put (some N) v = a':=by simp only [pu0,la,lb,lc,i64_w,i32_w];rfl) :
    wpAnyLast P md ops Q S ds (fuel + 1) (ba n m) a w:=pure_ _ hi hN hc hQ hy ha h
theorem pv (i:Nat) (N:Tmp) (m':Nat) (h:wpAnyLast P md ops Q S ds fuel (ba n m') a' w) (hi:ops[i]? = some oi:=by rfl) (hN:oi.dst = some N:=by rfl) (hc:anyB md ops (ba n m) (ba n m') i = true:=by kernel_rfl)
    (hQ:∀ c a w,Q (.panic c) (a.put oi.dst undef) w → Q (.panic c) a w:=by exact fun _ _ _ h=>h) (hy:Yields P ops oi undef a:=by exact Or.inr ⟨by rfl,rfl⟩) (ha:a.put (some N) undef = a':=by simp only [pu0,la,lb,lc,i64_w,i32_w];rfl) :
    wpAnyLast P md ops Q S ds (fuel + 1) (ba n m) a w:=pure_ _ hi hN hc hQ hy ha h
theorem tq (i:Nat) (N:Tmp) (m':Nat) (HT:Aside0 (rtab md ops = T)) (HW:Aside0 (waitsOk T.2 B = true)) (hS:S w) (h:wpAnyLast P md ops Q S ds fuel (ba n m') a' w) (hi:ops[i]? = some oi:=by rfl) (hN:oi.dst = some N:=by rfl) (hc:takeW T B ds (ba n m).toList (ba n m').toList i = true:=by kernel_rfl)
    (hQ:∀ c a w,Q (.panic c) (a.put oi.dst v) w → Q (.panic c) a w:=by exact fun _ _ _ h=>h) (hy:YieldsIf P ops S oi v a:=by refine Or.inl ⟨by rfl,?_⟩;intro w' hs_;repeat (obtain ⟨_,hs_⟩:=(id hs_:_ ∧ _));go_simp;with_reducible rfl) (ha:a.put (some N) v = a':=by simp only [pu0,la,lb,lc,i64_w,i32_w];rfl) :
    wpAnyLast P md ops Q S ds (fuel + 1) (ba n m) a w:=take_ _ hi hN (take_ofW HT.out HW.out hc) hQ hy hS ha h
theorem tr (i:Nat) (N:Tmp) (m':Nat) (hS:S w) (h:wpAnyLast P md ops Q S ds fuel (ba n m') a' w) (hi:ops[i]? = some oi:=by rfl) (hN:oi.dst = some N:=by rfl) (hc:takeB md ops ds (ba n m) (ba n m') i = true:=by kernel_rfl)
    (hQ:∀ c a w,Q (.panic c) (a.put oi.dst v) w → Q (.panic c) a w:=by exact fun _ _ _ h=>h) (hy:YieldsIf P ops S oi v a:=by refine Or.inl ⟨by rfl,?_⟩;intro w' hs_;repeat (obtain ⟨_,hs_⟩:=(id hs_:_ ∧ _));go_simp;with_reducible rfl) (ha:a.put (some N) v = a':=by simp only [pu0,la,lb,lc,i64_w,i32_w];rfl) :
    wpAnyLast P md ops Q S ds (fuel + 1) (ba n m) a w:=take_ _ hi hN hc hQ hy hS ha h
theorem nq {l:Array Bool} (N:Tmp) (h:wpAnyLast P md ops Q S ds fuel l a' w) (ha:a.put (some N) v = a':=by simp only [pu0,la,lb,lc,i64_w,i32_w];rfl):wpAnyLast P md ops Q S ds fuel l (a.put (some N) v) w:=norm_ ha h
theorem oq (i:Nat) (N:Tmp) (m':Nat) (HT:Aside0 (rtab md ops = T))
    (h:∀ K:Act → World → Prop,Shut (∀ a' w',S w' → (S w' → wpAnyLast P md ops Q S ds fuel (ba n m') a' w') → K a' w') → if Region.wanted oi (yielded ops a.tmps) = true then Oper.wp P oi a w K Q else K (a.put (some N) undef) w)
    (hi:ops[i]? = some oi:=by rfl) (hN:oi.dst = some N:=by rfl) (hc:(readyT T.2 (ba n m).toList == [i] && (ba n m).toList.set i true == (ba n m').toList) = true:=by kernel_rfl) (hd:i ∉ ds:=by decide):wpAnyLast P md ops Q S ds (fuel + 1) (ba n m) a w :=
  one_ _ hi hN (one_of HT.out hc) hd h
theorem os (i:Nat) (N:Tmp) (m':Nat)
    (h:∀ K:Act → World → Prop,Shut (∀ a' w',S w' → (S w' → wpAnyLast P md ops Q S ds fuel (ba n m') a' w') → K a' w') → if Region.wanted oi (yielded ops a.tmps) = true then Oper.wp P oi a w K Q else K (a.put (some N) undef) w)
    (hi:ops[i]? = some oi:=by rfl) (hN:oi.dst = some N:=by rfl) (hc:readyB md ops (ba n m) (ba n m') i = true:=by kernel_rfl) (hd:i ∉ ds:=by decide):wpAnyLast P md ops Q S ds (fuel + 1) (ba n m) a w :=
  one_ _ hi hN hc hd h
end
theorem hz {S:World → Prop} {X K:Act → World → Prop} {a':Act} {w':World} (hK:Shut (∀ a w,S w → (S w → X a w) → K a w)) (h:S w' → X a' w') (hs:S w':=by first | exact trivial | (and_intros <;> first | assumption | exact cz (by assumption) _) | exact cz (by assumption) _):K a' w':=hK.out _ _ hs h
section
variable {P:Program} {ops:Array Oper} {Q:Exit → Act → World → Prop} {T:Bool × List (List Nat × List Nat)} {B:List Nat} {a:Act} {w:World} {f:FuncId} {as_:Array Operand} {ts:Array TypeId} {rest:List Oper} {o:Oper}
theorem st {id:Nat} (n:Nat) (S:World → Prop) (ds:List Nat) (hT:rtab .any ops = T) (hB:waitsOk T.2 B = true) (h:S w.drew → Aside0 (rtab .any ops = T) → Aside0 (waitsOk T.2 B = true) → wpAnyLast P .any ops Q S ds n (ba n 0) a w.drew)
    (hm:P.follows .mixedOrders = true:=by kernel_rfl) (hn:ops.size = n:=by rfl) (hl:Array.replicate n false = ba n 0:=by rfl) (hS:S w.drew:=by first | exact trivial | (and_intros <;> first | assumption | exact cz (by assumption) _) | exact cz (by assumption) _):(Code.region id ops true).wp P Q a w :=
  start_ (ba n 0) hm hn hl hS fun hs=>h hs ⟨hT⟩ ⟨hB⟩
theorem bx (N:Tmp) (cs:Array Value) (t:TypeId) (h:∀ g,g = w.heap.size → ∀ w1,w1.heap[g]? = some (.cells cs t (0,0)) → Below w.heap.size w w1 → wpList P ops Q rest (a.put o.dst (.pointer (some ⟨g,0,none⟩))) w1) (hd:o.dst = some N:=by rfl) (hg:o.guard = none:=by rfl)
    (hr:(execOp a.eval o).run P w = .ok (.value (.pointer (some ⟨w.heap.size,0,none⟩))) (w.alloc (.cells cs t (0,0))):=by first | (go_simp;done) | (go_simp;rfl)):wpList P ops Q (o :: rest) a w:=box_event hg hd hr h
theorem gL (N:Option Tmp) {fn:Func} (hf:P.funcs[f]? = some fn) (args:Array Value) (h:Calls P f args w fun e w'=>∃ v,e = .returned v ∧ wpList P ops Q rest (a.put N v) w') (hd:o.dst = N:=by rfl) (hg:o.guard = none:=by rfl)
    (hop:o.op = .call { callee:=.value (.func f),args:=as_,argTypes:=ts }:=by rfl) (hname:(fn.name == "runtime.NumGoroutine") = false:=by kernel_rfl) (hb:fn.body.isSome = true:=by rfl) (hargs:as_.map a.eval = args:=by (try simp only [List.map_toArray,List.map_cons,List.map_nil]);first | done | rfl | (simp only [List.length_drop,List.length_take];rfl)) :
    wpList P ops Q (o :: rest) a w:=goesL_ N hd hg hf hname hb args hop hargs h
end
section
variable {P:Program} {ops:Array Oper} {Q:Exit → Act → World → Prop} {oi:Oper} {N:Option Tmp} {a:Act} {w:World} {K:Act → World → Prop} {f:FuncId} {as_:Array Operand} {ts:Array TypeId}
theorem gq {fn:Func} (hf:P.funcs[f]? = some fn) (args:Array Value) (h:Calls P f args w fun e w'=>∃ v,e = .returned v ∧ K (a.put N v) w') (hw:Region.wanted oi (yielded ops a.tmps) = true:=by rfl)
    (hN:oi.dst = N:=by rfl) (hop:oi.op = .call { callee:=.value (.func f),args:=as_,argTypes:=ts }:=by rfl) (hname:(fn.name == "runtime.NumGoroutine") = false:=by kernel_rfl) (hb:fn.body.isSome = true:=by rfl) (hargs:as_.map a.eval = args:=by (try simp only [List.map_toArray,List.map_cons,List.map_nil]);first | done | rfl | (simp only [List.length_drop,List.length_take];rfl)) :
    if Region.wanted oi (yielded ops a.tmps) = true then Oper.wp P oi a w K Q else K (a.put N undef) w:=goes_ hf hname hb args hw hN hop hargs h
end
end Go.Proofs.Ytjohcjfmlhihbaa.G
namespace Go.Proofs.Ytjohcjfmlhihbaa.G
open Go.RowKit Go.Proofs.YtjohcjfmlhihbaaW.PrintWords Go.Proofs.YtjohcjfmlhihbaaW.PrintLast Go.Proofs.YtjohcjfmlhihbaaW.PrintMore
set_option maxHeartbeats 8000000
set_option maxRecDepth 100000
attribute [local go_sem] cond_true cond_false fld23_0 fld23_1 fld45_0 fld45_1 fld109_0 fld109_1 fld94_0 fld94_1 max2_int min2_int max_two min_two max_three min_three max_four min_four   -- for this text's walks alone
def shares_within.f (a0:Int) (a1:Int) (a2:Int):Option (Bool):=if a0 ≥ a1 then (some (decide (a0 ≤ a2))) else (some false)
theorem shares_within.calls (a0:Int) (a1:Int) (a2:Int) (r:Bool) (w:World) (h:shares_within.f a0 a1 a2 = some r) :
  Calls Try.prog 92 #[.int .i64 a0,.int .i64 a1,.int .i64 a2] w fun e w'=>e = .returned (.bool r) ∧ Drawn0 w w':=by
 have H:(if a0 ≥ a1 then (some (decide (a0 ≤ a2))) else (some false)) = some r:=h;clear h;by_cases c4:a0 ≥ a1
 ·rw [if_pos c4] at H;have b0:decide (a1 ≤ a0) = true:=decide_eq_true c4;clear c4;obtain rfl:=Option.some.inj H;go_enter Try.func92,Try.ntmps92;go_wp2;go_ret;exact ⟨by first | rfl | (simp;done) | (simp [*];done),by repeat (first | exact Drawn0.refl _ | apply Drawn0.step)⟩
 rw [if_neg c4] at H;have b0:decide (a1 ≤ a0) = false:=decide_eq_false c4;clear c4;obtain rfl:=Option.some.inj H;go_enter Try.func92,Try.ntmps92;go_wp2;go_ret;exact ⟨by first | rfl | (simp;done) | (simp [*];done),by repeat (first | exact Drawn0.refl _ | apply Drawn0.step)⟩
end Go.Proofs.Ytjohcjfmlhihbaa.G
namespace Go.Proofs.Ytjohcjfmlhihbaa.H
open Go Go.RowKit Go.Shelf Go.Proofs.Ytjohcjfmlhihbaa.G Go.Proofs.YtjohcjfmlhihbaaW.PrintWords
def inI (n:Int):Prop:=-9223372036854775808 ≤ n ∧ n ≤ 9223372036854775807
instance (n:Int):Decidable (inI n):=by unfold inI;exact inferInstance
def fitL {α:Type} (l:List α):Prop:=l.length ≤ 9223372036854775807
instance {α:Type} (l:List α):Decidable (fitL l):=by unfold fitL;exact inferInstance
theorem wide_fn (f:FuncId):Fence.wide.fn f = True:=rfl
theorem lay1 (w:World) (o0:Obj):(w.alloc o0).heap[w.heap.size]? = some o0 ∧ (w.alloc o0).heap.size = w.heap.size + 1 ∧ Below w.heap.size w (w.alloc o0) :=
 ⟨World.alloc_heap_new _ _,World.size_alloc _ _,(Below.refl _ _).alloc (Nat.le_refl _) _⟩
end Go.Proofs.Ytjohcjfmlhihbaa.H
namespace Go.Proofs.Ytjohcjfmlhihbaa.H
open Go Go.RowKit Go.Shelf Go.Proofs.Ytjohcjfmlhihbaa.G Go.Proofs.YtjohcjfmlhihbaaW.PrintWords
attribute [local go_sem] Oper.semAt_some wide_fn
theorem within_val (a lo hi:Int) (w:World):Calls Try.prog 92 #[.int .i64 a,.int .i64 lo,.int .i64 hi] w fun e w'=>e = .returned (.bool (decide (lo ≤ a ∧ a ≤ hi))) ∧ Drawn0 w w':=by
 refine shares_within.calls a lo hi _ w ?_
 unfold shares_within.f
 by_cases h:a ≥ lo
 ·rw [if_pos h]
  congr 1
  rw [Bool.eq_iff_iff,decide_eq_true_iff,decide_eq_true_iff]
  exact ⟨fun k=>⟨h,k⟩,fun k=>k.2⟩
 ·rw [if_neg h]
  congr 1
  rw [eq_comm,decide_eq_false_iff_not]
  exact fun k=>h k.1
set_option maxHeartbeats 1000000 in
theorem c119_any (x:Int) (w:World):Calls Try.prog 119 #[.int .i64 x] w fun e w'=>e = .returned (.bool (!decide (0 ≤ x ∧ x ≤ 1000))) ∧ Below w.heap.size w w':=by
 refine (callsIn_wide (n:=9)).1 ?_
 refine callsIn_of_wp Try.func119 rfl trivial ?_
 simp only [Try.ntmps119,List.size_toArray,List.length_cons,List.length_nil,Nat.reduceAdd,Nat.reduceSub,Array.replicate_succ,Array.replicate_zero,List.push_toArray,List.append_toArray,List.nil_append,List.cons_append]
 gi_wp2_with fail
 refine (callsIn_wide.2 (within_val x 0 1000 w)).mono ?_
 rintro e w1 ⟨rfl,hd⟩
 have HB:=Lib.hid hd.below
 clear hd
 gi_wp2_with fail
 exact bodyPost_ret (v:=.bool (!decide (0 ≤ x) || !decide (x ≤ 1000))) (results_tmp (t:=2) rfl _ _ _) rfl ⟨by rw [Bool.decide_and,Bool.not_and],HB.out⟩
set_option maxHeartbeats 4000000 in
set_option maxRecDepth 100000 in
theorem index119 (A:Option Addr) (c:Nat) (l:List Int) (w:World) (hl:Kd.C (Kd.int .i64) w A l.length l) (hlen:fitL l) :
  Calls Try.prog 109 #[.slice A l.length c,.func (.func 119) #[] #[]] w fun e w'=>∃ i:Int,e = .returned (.int .i64 i) ∧ decide (0 ≤ i) = l.any (fun x=>!decide (0 ≤ x ∧ x ≤ 1000)) ∧ Below w.heap.size w w':=by
 refine (callsIn_wide (n:=9)).1 ?_
 refine callsIn_of_wp Try.func109 rfl trivial ?_
 simp only [Try.ntmps109,List.size_toArray,List.length_cons,List.length_nil,Nat.reduceAdd,Nat.reduceSub,Array.replicate_succ,Array.replicate_zero,List.push_toArray,List.append_toArray,List.nil_append,List.cons_append]
 unfold fitL at hlen
 have HL:=Lib.hid hl
 clear hl
 gi_wp2_with fail
 gi_loopg [8] l.length (fun k s8 W=>∃ i:Nat,s8 = .int .i64 (i:Int) ∧ i ≤ l.length ∧ l.length ≤ k + i ∧ Below w.heap.size w W ∧ (l.take i).any (fun x=>!decide (0 ≤ x ∧ x ≤ 1000)) = false)
 case atStart=>exact ⟨0,rfl,by omega,by omega,Below.refl _ _,rfl⟩
 case round =>
  obtain ⟨i,rfl,hi,hk,hB,hany⟩:=hrel
  have HB:=Lib.hid hB
  have HA:=Lib.hid hany
  clear hB hany
  by_cases hil:i < l.length
  ·have hI0:(0:Int) ≤ (i:Int):=by omega
   have hI1:(i:Int) < (l.length:Int):=by omega
   obtain ⟨ad,e0,hx⟩:=Kd.at_int HL.out (i:Int) hI0 hI1
   cases e0
   rw [Int.toNat_natCast] at hx
   have hcell:=(HB.out.cell (World.block_lt_of_cell? w _ hx)).trans hx
   obtain ⟨x,hxe⟩:∃ x,rd l (i:Int) = x:=⟨_,rfl⟩
   rw [hxe] at hcell
   have hxi:l[i] = x:=by rw [← hxe];unfold rd;simp [hil]
   have HXE:=Lib.hid hxi
   clear hx hxe hxi
   gi_wp2_with fail
   refine (callsIn_wide.2 (c119_any x _)).mono ?_
   rintro e w1 ⟨rfl,hb1⟩
   have HB1:=Lib.hid hb1
   have hs:=HB.out.size
   obtain ⟨q,hq⟩:∃ q,(!decide (0 ≤ x ∧ x ≤ 1000)) = q:=⟨_,rfl⟩
   rw [hq]
   have HQ:=Lib.hid hq
   clear hb1 hq
   cases q with
   | true =>
    gi_wp2_with fail
    refine bodyPost_ret (v:=.int .i64 (i:Int)) (results_tmp (t:=4) rfl _ _ _) rfl ⟨i,rfl,?_,HB.out.trans (HB1.out.mono hs)⟩
    have:l.any (fun x=>!decide (0 ≤ x ∧ x ≤ 1000)) = true:=List.any_eq_true.2 ⟨x,by rw [← HXE.out];exact List.getElem_mem hil,HQ.out⟩
    rw [this];simp
   | false =>
    gi_wp2_with fail
    gi_roundg (l.length - (i + 1))
    case measure=>omega
    case rel =>
     refine ⟨i + 1,by simp,by omega,by omega,HB.out.trans (HB1.out.mono hs),?_⟩
     rw [List.take_succ_eq_append_getElem hil,List.any_append,HA.out,HXE.out]
     simp only [List.any_cons,List.any_nil,Bool.or_false,Bool.false_or]
     exact HQ.out
  ·have:i = l.length:=by omega
   subst this
   gi_wp2_with fail
   refine bodyPost_ret (v:=.int .i64 (-1)) (results_tmp (t:=4) rfl _ _ _) rfl ⟨-1,rfl,?_,HB.out⟩
   have:=HA.out
   rw [List.take_length] at this
   rw [this];simp
set_option maxHeartbeats 4000000 in
theorem contains119 (A:Option Addr) (c:Nat) (l:List Int) (w:World) (hl:Kd.C (Kd.int .i64) w A l.length l) (hlen:fitL l) :
  Calls Try.prog 80 #[.slice A l.length c,.func (.func 119) #[] #[]] w fun e w'=>e = .returned (.bool (l.any (fun x=>!decide (0 ≤ x ∧ x ≤ 1000)))) ∧ Below w.heap.size w w':=by
 refine (callsIn_wide (n:=9)).1 ?_
 refine callsIn_of_wp Try.func80 rfl trivial ?_
 simp only [Try.ntmps80,List.size_toArray,List.length_cons,List.length_nil,Nat.reduceAdd,Nat.reduceSub,Array.replicate_succ,Array.replicate_zero,List.push_toArray,List.append_toArray,List.nil_append,List.cons_append]
 have HI:=Lib.hid (index119 A c l w hl hlen)
 clear hl
 gi_wp2_with fail
 refine (callsIn_wide.2 HI.out).mono ?_
 rintro e w1 ⟨i,rfl,hd,hb1⟩
 have HD:=Lib.hid hd
 have HB1:=Lib.hid hb1
 clear hd hb1
 gi_wp2_with fail
 refine bodyPost_ret (v:=.bool (decide (0 ≤ i))) (results_tmp (t:=4) rfl _ _ _) rfl ⟨by rw [HD.out],HB1.out⟩
end Go.Proofs.Ytjohcjfmlhihbaa.H
namespace Go.Proofs.Ytjohcjfmlhihbaa.G
open Go Go.RowKit Go.Proofs.YtjohcjfmlhihbaaW.PrintWords
def contains119.f (l0:List Int):Option ((Bool)):=if H.fitL l0 then some (l0.any (fun x=>!decide (0 ≤ x ∧ x ≤ 1000))) else none
theorem contains119.calls (A0:Option Addr) (c0:Nat) (l0:List Int) (r:Bool) (w:World) (hr0:Kd.C (Kd.int .i64) w A0 l0.length l0) (_:l0.length ≤ c0) (h:contains119.f l0 = some r) :
  Calls Try.prog 80 #[.slice A0 l0.length c0,.func (.func 119) #[] #[]] w fun e w'=>e = .returned (.bool r) ∧ Below w.heap.size w w':=by
 unfold contains119.f at h
 by_cases hf:H.fitL l0
 case neg =>
  rw [if_neg hf] at h
  cases h
 rw [if_pos hf] at h
 obtain rfl:=Option.some.inj h
 exact H.contains119 A0 c0 l0 w hr0 hf
end Go.Proofs.Ytjohcjfmlhihbaa.G
namespace Go.Proofs.Ytjohcjfmlhihbaa.G
open Go.RowKit Go.Proofs.YtjohcjfmlhihbaaW.PrintWords Go.Proofs.YtjohcjfmlhihbaaW.PrintLast Go.Proofs.YtjohcjfmlhihbaaW.PrintMore
set_option maxHeartbeats 8000000
set_option maxRecDepth 100000
attribute [local go_sem] cond_true cond_false fld23_0 fld23_1 fld45_0 fld45_1 fld109_0 fld109_1 fld94_0 fld94_1 max2_int min2_int max_two min_two max_three min_three max_four min_four   -- for this text's walks alone
def shares_areClaims.f (l0:List Int):Option (Bool):=(shares_within.f (l0.length:Int) 1 10).bind fun b1=>(if b1 = true then ((contains119.f l0).bind fun b0=>(some (!b0))) else (some false))
theorem shares_areClaims.calls (A0:Option Addr) (c0:Nat) (l0:List Int) (r:Bool) (w:World) (b2:Kd.C (Kd.int .i64) w A0 l0.length l0) (b3:l0.length ≤ c0) (h:shares_areClaims.f l0 = some r) :
  Calls Try.prog 91 #[.slice A0 l0.length c0] w fun e w'=>e = .returned (.bool r) ∧ Below w.heap.size w w':=by
 have b7:=Aside0.mk b2;have b8:=Aside0.mk b3;clear b2 b3;have HB:=Aside0.mk (Below.refl w.heap.size w);have H:((shares_within.f (l0.length:Int) 1 10).bind fun b1=>(if b1 = true then ((contains119.f l0).bind fun b0=>(some (!b0))) else (some false))) = some r:=h;clear h;replace H:=Option.bind_eq_some_iff.mp H;obtain ⟨b1,b4,H⟩:=H;replace H:(if b1 = true then ((contains119.f l0).bind fun b0=>(some (!b0))) else (some false)) = some r:=H;have A2:=Aside0.mk b4;clear b4;by_cases c3:b1 = true
 case neg =>
  replace c3:=Bool.eq_false_iff.mpr c3;subst c3;have H1:(some false) = some r:=by rw [if_neg (show ¬ (false = true) by decide)] at H;exact H
  clear H;have H:=H1;clear H1;obtain rfl:=Option.some.inj H;go_enter Try.func91,Try.ntmps91;go_wp2_with (first | ((with_reducible refine gate_callee (f:=92) rfl ?_);refine goesL_ (some 5) rfl rfl Try.func92 (by kernel_rfl) rfl #[.int .i64 (l0.length:Int),.int .i64 1,.int .i64 10] rfl (by (try simp only [List.map_toArray,List.map_cons,List.map_nil]);first | done | rfl | (simp only [List.length_drop,List.length_take];rfl)) ?_;(with_reducible refine (shares_within.calls (l0.length:Int) 1 10 false _ A2.out).mono ?_);rintro e w' ⟨rfl,⟨nd,rfl⟩⟩;refine ⟨_,rfl,?_⟩));go_ret;exact ⟨by first | rfl | (simp [errW_none,errW_some] <;> rfl) | (simp [*,errW_none,errW_some] <;> rfl),by repeat (first | (with_reducible first | exact HB.out | apply below_alloc | apply pw_below_drewN | apply below_drew1) | exact HB.out)⟩
 subst c3;have H1:((contains119.f l0).bind fun b0=>(some (!b0))) = some r:=by rw [if_pos rfl] at H;exact H
 clear H;have H:=H1;clear H1;replace H:=Option.bind_eq_some_iff.mp H;obtain ⟨b0,b5,H⟩:=H;replace H:(some (!b0)) = some r:=H;have A4:=Aside0.mk b5;clear b5;obtain rfl:=Option.some.inj H;go_enter Try.func91,Try.ntmps91;go_wp2_with (first | ((with_reducible refine gate_callee (f:=92) rfl ?_);refine goesL_ (some 5) rfl rfl Try.func92 (by kernel_rfl) rfl #[.int .i64 (l0.length:Int),.int .i64 1,.int .i64 10] rfl (by (try simp only [List.map_toArray,List.map_cons,List.map_nil]);first | done | rfl | (simp only [List.length_drop,List.length_take];rfl)) ?_;(with_reducible refine (shares_within.calls (l0.length:Int) 1 10 true _ A2.out).mono ?_);rintro e w' ⟨rfl,⟨nd,rfl⟩⟩;refine ⟨_,rfl,?_⟩) | (go_at_call 80;(with_reducible refine (contains119.calls _ _ l0 b0 _ ?side1 ?side2 A4.out).mono ?_);(case side1=>repeat (first | exact b7.out | (with_reducible refine Kd.C_alloc ?_ _) | (with_reducible refine Kd.C_drewN ?_ _) | (with_reducible refine Kd.C_drew ?_)));(case side2=>exact b8.out);rintro e w5 ⟨rfl,hb⟩;have b6:=Aside0.mk (below_step (by repeat (first | (with_reducible first | exact HB.out | apply below_alloc | apply pw_below_drewN | apply below_drew1) | exact HB.out)) hb);clear HB;have HB:=b6;clear b6;(try clear hb)));go_ret;exact ⟨by first | rfl | (simp [errW_none,errW_some] <;> rfl) | (simp [*,errW_none,errW_some] <;> rfl),by repeat (first | (with_reducible first | exact HB.out | apply below_alloc | apply pw_below_drewN | apply below_drew1) | exact HB.out)⟩
def shares_total.l0:Nat → Int → List Int → Int → Int → Option (Int)
 | 0,_,_,_,_=>none
 | k + 1,x3,x6,x7,x8=>if x8 < x7 then (if 0 ≤ x8 then (if x8 < (x6.length:Int) then (shares_total.l0 k (wrap64 (x3 + (rd x6 x8))) x6 x7 (wrap64 (x8 + 1))) else (none)) else (none)) else (some x3)
def shares_total.f (k:Nat) (l0:List Int):Option (Int):=shares_total.l0 k 0 l0 (l0.length:Int) 0
theorem shares_total.mono_l:∀ k,(∀ y0 y1 y2 y3,LeO (shares_total.l0 k y0 y1 y2 y3) (shares_total.l0 (k + 1) y0 y1 y2 y3))
 | 0=>fun _ _ _ _ r h=>by simp [shares_total.l0] at h
 | k + 1=>by
  have b4:=shares_total.mono_l k;intro y0 y1 y2 y3;unfold shares_total.l0
  repeat' first
  | (with_reducible exact b4 _ _ _ _)
  | (with_reducible exact LeO.refl _)
  | (with_reducible exact LeO.none _)
  | (with_reducible refine LeO.ite ?_ ?_)
  | (with_reducible refine LeO.bind ?_ (fun _=>?_))
  | exact b4 _ _ _ _
  | exact LeO.none _
  | refine LeO.ite ?_ ?_
  | refine LeO.bind ?_ (fun _=>?_)
theorem shares_total.mono:∀ a0 k,LeO (shares_total.f k a0) (shares_total.f (k + 1) a0):=by
 intro a0 k;have b4:=shares_total.mono_l k;unfold shares_total.f
 repeat' first
   | (with_reducible exact b4 _ _ _ _)
   | (with_reducible exact LeO.refl _)
   | (with_reducible exact LeO.none _)
   | (with_reducible refine LeO.ite ?_ ?_)
   | (with_reducible refine LeO.bind ?_ (fun _=>?_))
   | exact b4 _ _ _ _
   | exact LeO.none _
   | refine LeO.ite ?_ ?_
   | refine LeO.bind ?_ (fun _=>?_)
theorem shares_total.calls (k:Nat) (A0:Option Addr) (c0:Nat) (l0:List Int) (r:Int) (w:World) (b8:Kd.C (Kd.int .i64) w A0 l0.length l0) (b9:l0.length ≤ c0) (h:shares_total.f k l0 = some r) :
  Calls Try.prog 93 #[.slice A0 l0.length c0] w fun e w'=>e = .returned (.int .i64 r) ∧ Drawn0 w w':=by
 have d1:=Aside0.mk b8;have d4:=Aside0.mk b9;clear b8 b9;have H:(shares_total.l0 k 0 l0 (l0.length:Int) 0) = some r:=h;clear h;have H':=Aside0.mk H;clear H;go_enter Try.func93,Try.ntmps93;go_wp2;go_loopg [3,8] k (fun kq v3 v8 w'=>∃ (b1:Int) (b0:Int),v3 = .int .i64 b1 ∧ v8 = .int .i64 b0 ∧ Aside0 (shares_total.l0 kq b1 l0 (l0.length:Int) b0 = some r) ∧ Aside0 (kq ≤ k) ∧ Drawn0 w w')
 case atStart=>exact ⟨(0),(0),(by first | rfl | (simp;done) | (simp [*];done)),(by first | rfl | (simp;done) | (simp [*];done)),H',⟨Nat.le_refl _⟩,by repeat (first | exact Drawn0.refl _ | apply Drawn0.step)⟩
 case round =>
  clear H';obtain ⟨b1,b0,rfl,rfl,HA,c1,⟨m1,rfl⟩⟩:=hrel
  cases gk with
  | zero=>exact absurd HA.out (by simp [shares_total.l0])
  | succ k1 =>
   have H:=HA.out;clear HA;simp only [shares_total.l0] at H;by_cases c2:b0 < (l0.length:Int)
   case neg =>
    rw [if_neg c2] at H;have b6:decide (b0 < (l0.length:Int)) = false:=decide_eq_false c2;clear c2;obtain rfl:=Option.some.inj H;go_wp2;go_ret;exact ⟨by first | rfl | (simp;done) | (simp [*];done),by repeat (first | exact Drawn0.refl _ | apply Drawn0.step)⟩
   rw [if_pos c2] at H;have b6:decide (b0 < (l0.length:Int)) = true:=decide_eq_true c2;clear c2;by_cases c3:0 ≤ b0
   case neg =>
    rw [if_neg c3] at H;exact absurd H (by simp)
   rw [if_pos c3] at H;have d2:decide (0 ≤ b0) = true:=decide_eq_true c3;clear c3;by_cases c4:b0 < (l0.length:Int)
   case neg =>
    rw [if_neg c4] at H;exact absurd H (by simp)
   rw [if_pos c4] at H;have d3:decide (b0 < (l0.length:Int)) = true:=decide_eq_true c4;clear c4;have H':=Aside0.mk H;clear H;have b2:0 ≤ (b0:Int):=of_decide_eq_true (by first | (with_reducible assumption) | assumption);have b3:b0 < (l0.length:Int):=of_decide_eq_true (by first | (with_reducible assumption) | assumption);obtain ⟨d0,b7,b5⟩:=Kd.at_int d1.out b0 b2 b3
   cases b7;replace b2:=eq_true b2;replace b3:=eq_true b3;go_wp2;go_roundg k1
   case measure=>have:=c1.out;omega
   case rel=>exact ⟨(wrap64 (b1 + (rd l0 b0))),(wrap64 (b0 + 1)),(by first | rfl | (simp;done) | (simp [*];done)),(by first | rfl | (simp;done) | (simp [*];done)),H',⟨by have:=c1.out;omega⟩,by repeat (first | exact Drawn0.refl _ | apply Drawn0.step)⟩
end Go.Proofs.Ytjohcjfmlhihbaa.G
namespace Go.Proofs.Ytjohcjfmlhihbaa.G
open Go.RowKit Go.Proofs.YtjohcjfmlhihbaaW.PrintWords Go.Proofs.YtjohcjfmlhihbaaW.PrintLast Go.Proofs.YtjohcjfmlhihbaaW.PrintMore
set_option maxHeartbeats 8000000
set_option maxRecDepth 100000
attribute [local go_sem] cond_true cond_false fld23_0 fld23_1 fld45_0 fld45_1 fld109_0 fld109_1 fld94_0 fld94_1 max2_int min2_int max_two min_two max_three min_three max_four min_four
def shares_newClaims.f (k:Nat) (l0:List Int) (a1:Int):Option (List Int × Int × Bool):=(shares_areClaims.f l0).bind fun b7=>(if b7 = true then ((shares_total.f k l0).bind fun b4=>((shares_within.f a1 0 b4).bind fun b3=>(some (l0,a1,b3)))) else (some (l0,a1,false)))
theorem shares_newClaims.mono:∀ a0 a1 k,LeO (shares_newClaims.f k a0 a1) (shares_newClaims.f (k + 1) a0 a1):=by
 intro a0 a1 k;unfold shares_newClaims.f
 repeat' first
   | (with_reducible first | exact shares_total.mono _ _ | exact LeO.refl _ | exact LeO.none _ | refine LeO.ite ?_ ?_ | refine LeO.bind ?_ (fun _=>?_))
   | exact LeO.none _ | refine LeO.ite ?_ ?_ | refine LeO.bind ?_ (fun _=>?_)
theorem shares_newClaims.calls (k:Nat) (b5:Nat → Prop) (b6:Value) (l0:List Int) (a1:Int) (r1:List Int) (r2:Int) (r3:Bool) (w0 w:World) (hB:Below w0.heap.size w0 w) (e6:Kd.R (Kd.int .i64) 3 w w0.heap.size b5 b6 l0) (h:shares_newClaims.f k l0 a1 = some (r1,r2,r3)) :
  Calls Try.prog 62 #[b6,.int .i64 a1] w fun e w'=>∃ e1:Value,e = .returned (.tuple #[.agg #[e1,.int .i64 r2],.bool r3]) ∧ Kd.R (Kd.int .i64) 3 w' w0.heap.size (fun k_=>(b5 k_ ∨ w.heap.size ≤ k_)) e1 r1 ∧ Below w0.heap.size w0 w' ∧ Kept w w' (fun k_=>b5 k_):=by
 have e7:=Try.underlying94;have b2:=A_ (show Kd.R (Kd.int .i64) 3 w w0.heap.size (fun k_=>(b5 k_ ∨ w.heap.size ≤ k_)) b6 l0 from Kd.R_mono e6 (fun k_ hk=>(.inl hk)));have HK:=A_ (Kept.refl w (fun k_=>b5 k_));have e9:=A_ hB.size;have HB:=A_ hB;clear hB;have H:((shares_areClaims.f l0).bind fun b7=>(if b7 = true then ((shares_total.f k l0).bind fun b4=>((shares_within.f a1 0 b4).bind fun b3=>(some (l0,a1,b3)))) else (some (l0,a1,false)))) = some (r1,r2,r3):=h;clear h;replace H:=Option.bind_eq_some_iff.mp H;obtain ⟨b7,e2,H⟩:=H;replace H:(if b7 = true then ((shares_total.f k l0).bind fun b4=>((shares_within.f a1 0 b4).bind fun b3=>(some (l0,a1,b3)))) else (some (l0,a1,false))) = some (r1,r2,r3):=H;have A3:=A_ e2;clear e2;by_cases c4:b7 = true
 case neg =>
  replace c4:=Bool.eq_false_iff.mpr c4;subst c4;rw [if_neg (show ¬ (false = true) by decide)] at H;simp only [Option.some.injEq,Prod.mk.injEq] at H;obtain ⟨rfl,rfl,rfl⟩:=H;go_enter Try.func62,Try.ntmps62;go_wp2_with (first | ((with_reducible refine gate_dst (N:=4) rfl ?_);refine bx 4 #[.slice none 0 0,.int .i64 0] 94 ?_;intro b1 hg h0 hbox hb;have b0:=A_ hbox;have b8:=A_ ((by rw [hg];exact (by first | exact HK.out.1 | exact (show Kept w _ (fun k_=>b5 k_) from bl HK).1):w.heap.size ≤ b1));have d1:=A_ ((by rw [hg];exact (below_size HB.out):w0.heap.size ≤ b1));replace b2:=rB b2 hb;replace HK:=A_ (Kept.below (S:=(fun k_=>b5 k_)) HK.out hb);replace HB:=bB HB hb;clear hb hbox hg;obtain ⟨b9,c0,e0⟩:=Kd.R_slice b2.out;subst e0) | ((with_reducible refine gate_callee (f:=91) rfl ?_);refine gL (some 10) Try.func91 #[.slice b9 l0.length c0] ?_;(with_reducible refine (shares_areClaims.calls _ _ l0 false _ ?side1 ?side2 A3.out).mono ?_);(case side1=>repeat (first | exact (Kd.R_reads' b2.out).2.2 | (with_reducible refine Kd.C_alloc ?_ _) | (with_reducible refine Kd.C_drewN ?_ _) | (with_reducible refine Kd.C_drew ?_)));(case side2=>exact (Kd.R_reads' b2.out).2.1);rintro e e3 ⟨rfl,hb⟩;refine ⟨_,rfl,?_⟩;replace b2:=rB b2 hb;replace b0:=kB b0 hb;replace HK:=A_ (Kept.below (S:=(fun k_=>b5 k_)) HK.out hb);replace HB:=bB HB hb;(try clear hb);have d2:e3.cell? ⟨b1,0,none⟩ = some (.slice none 0 0):=cz b0 0;have d3:e3.cell? ⟨b1,1,none⟩ = some (.int .i64 0):=cz b0 1;have d4:=blk_frozen b0.out 0;have d5:=blk_frozen b0.out 1));refine bodyPost_ret (results_ct rfl _ _ b1 94 #[.slice b9 l0.length c0,.int .i64 a1] (0,0) _ rfl (by (with_reducible repeat (first | refine blk_drewN ?_ _ | refine blk_drew ?_ | refine blk_alloc ?_ _));refine blk_put (cs:=#[.slice b9 l0.length c0,.int .i64 0]) ?_ 1 _ rfl;(with_reducible repeat (first | refine blk_drewN ?_ _ | refine blk_drew ?_ | refine blk_alloc ?_ _));refine blk_put (cs:=#[.slice none 0 0,.int .i64 0]) ?_ 0 _ rfl;(with_reducible repeat (first | refine blk_drewN ?_ _ | refine blk_drew ?_ | refine blk_alloc ?_ _));exact b0.out) Try.underlying94 rfl (by kernel_rfl)) rfl ?_;exact ⟨_,rfl,by (with_reducible repeat (first | apply Kd.R_alloc | apply Kd.R_drewN | apply Kd.R_drew));exact Kd.R_mono (Kd.R_far (p:=⟨b1,1,none⟩) (Kd.R_far (p:=⟨b1,0,none⟩) (Kd.R_types b2.out b0.out (by decide)) (fun _ hk=>hk.2) (.slice b9 l0.length c0)) (fun _ hk=>hk.2) (.int .i64 a1)) (fun _ hk=>hk.1),bl HB,by repeat (first | (with_reducible first | exact HK.out | apply Kept.alloc | apply Kept.drewN | apply Kept.drew | refine Kept.setCell ?_ (.inr b8.out) _) | exact HK.out)⟩
 subst c4;rw [if_pos rfl] at H;replace H:=Option.bind_eq_some_iff.mp H;obtain ⟨b4,e4,H⟩:=H;replace H:((shares_within.f a1 0 b4).bind fun b3=>(some (l0,a1,b3))) = some (r1,r2,r3):=H;have A5:=A_ e4;clear e4;replace H:=Option.bind_eq_some_iff.mp H;obtain ⟨b3,e5,H⟩:=H;replace H:(some (l0,a1,b3)) = some (r1,r2,r3):=H;have A6:=A_ e5;clear e5;simp only [Option.some.injEq,Prod.mk.injEq] at H;obtain ⟨rfl,rfl,rfl⟩:=H;go_enter Try.func62,Try.ntmps62;go_wp2_with (first | ((with_reducible refine gate_dst (N:=4) rfl ?_);refine bx 4 #[.slice none 0 0,.int .i64 0] 94 ?_;intro b1 hg w7 hbox hb;have b0:=A_ hbox;have b8:=A_ ((by rw [hg];exact (by first | exact HK.out.1 | exact (show Kept w _ (fun k_=>b5 k_) from bl HK).1):w.heap.size ≤ b1));have d1:=A_ ((by rw [hg];exact (below_size HB.out):w0.heap.size ≤ b1));replace b2:=rB b2 hb;replace HK:=A_ (Kept.below (S:=(fun k_=>b5 k_)) HK.out hb);replace HB:=bB HB hb;clear hb hbox hg;obtain ⟨c1,d0,e8⟩:=Kd.R_slice b2.out;subst e8) | ((with_reducible refine gate_callee (f:=91) rfl ?_);refine gL (some 10) Try.func91 #[.slice c1 l0.length d0] ?_;(with_reducible refine (shares_areClaims.calls _ _ l0 true _ ?side1 ?side2 A3.out).mono ?_);(case side1=>repeat (first | exact (Kd.R_reads' b2.out).2.2 | (with_reducible refine Kd.C_alloc ?_ _) | (with_reducible refine Kd.C_drewN ?_ _) | (with_reducible refine Kd.C_drew ?_)));(case side2=>exact (Kd.R_reads' b2.out).2.1);rintro e w9 ⟨rfl,hb⟩;refine ⟨_,rfl,?_⟩;replace b2:=rB b2 hb;replace b0:=kB b0 hb;replace HK:=A_ (Kept.below (S:=(fun k_=>b5 k_)) HK.out hb);replace HB:=bB HB hb;(try clear hb)) | (go_at_call 93;(with_reducible refine (shares_total.calls k _ _ l0 b4 _ ?side1 ?side2 A5.out).mono ?_);(case side1=>repeat (first | exact (Kd.R_reads' b2.out).2.2 | (with_reducible refine Kd.C_alloc ?_ _) | (with_reducible refine Kd.C_drewN ?_ _) | (with_reducible refine Kd.C_drew ?_)));(case side2=>exact (Kd.R_reads' b2.out).2.1);rintro e w' ⟨rfl,⟨nd,rfl⟩⟩;(try (rw [drewN_self w9];generalize hq_:World.drewN w9 _ = w9;replace b2:Aside0 (Kd.R (Kd.int .i64) 3 w9 w0.heap.size (fun k_=>(b5 k_ ∨ w.heap.size ≤ k_)) (.slice c1 l0.length d0) l0):=⟨by rw [← hq_];exact b2.out⟩;replace b0:Aside0 (w9.heap[b1]? = some (.cells #[.slice none 0 0,.int .i64 0] 94 (0,0))):=⟨by rw [← hq_];exact b0.out⟩;replace HK:Aside0 (Kept w w9 (fun k_=>b5 k_)):=⟨by rw [← hq_];exact HK.out⟩;replace HB:Aside0 (Below w0.heap.size w0 w9):=⟨by rw [← hq_];exact HB.out⟩;clear hq_))) | (go_at_call 92;(with_reducible refine (shares_within.calls a1 0 b4 b3 _ A6.out).mono ?_);rintro e w' ⟨rfl,⟨nd,rfl⟩⟩;(try (rw [drewN_self w9];generalize hq_:World.drewN w9 _ = w9;replace b2:Aside0 (Kd.R (Kd.int .i64) 3 w9 w0.heap.size (fun k_=>(b5 k_ ∨ w.heap.size ≤ k_)) (.slice c1 l0.length d0) l0):=⟨by rw [← hq_];exact b2.out⟩;replace b0:Aside0 (w9.heap[b1]? = some (.cells #[.slice none 0 0,.int .i64 0] 94 (0,0))):=⟨by rw [← hq_];exact b0.out⟩;replace HK:Aside0 (Kept w w9 (fun k_=>b5 k_)):=⟨by rw [← hq_];exact HK.out⟩;replace HB:Aside0 (Below w0.heap.size w0 w9):=⟨by rw [← hq_];exact HB.out⟩;clear hq_));have d6:w9.cell? ⟨b1,0,none⟩ = some (.slice none 0 0):=cz b0 0;have d7:w9.cell? ⟨b1,1,none⟩ = some (.int .i64 0):=cz b0 1;have d8:=blk_frozen b0.out 0;have d9:=blk_frozen b0.out 1));refine bodyPost_ret (results_ct rfl _ _ b1 94 #[.slice c1 l0.length d0,.int .i64 a1] (0,0) _ rfl (by (with_reducible repeat (first | refine blk_drewN ?_ _ | refine blk_drew ?_ | refine blk_alloc ?_ _));refine blk_put (cs:=#[.slice c1 l0.length d0,.int .i64 0]) ?_ 1 _ rfl;(with_reducible repeat (first | refine blk_drewN ?_ _ | refine blk_drew ?_ | refine blk_alloc ?_ _));refine blk_put (cs:=#[.slice none 0 0,.int .i64 0]) ?_ 0 _ rfl;(with_reducible repeat (first | refine blk_drewN ?_ _ | refine blk_drew ?_ | refine blk_alloc ?_ _));exact b0.out) Try.underlying94 rfl (by kernel_rfl)) rfl ?_;exact ⟨_,rfl,by (with_reducible repeat (first | apply Kd.R_alloc | apply Kd.R_drewN | apply Kd.R_drew));exact Kd.R_mono (Kd.R_far (p:=⟨b1,1,none⟩) (Kd.R_far (p:=⟨b1,0,none⟩) (Kd.R_types b2.out b0.out (by decide)) (fun _ hk=>hk.2) (.slice c1 l0.length d0)) (fun _ hk=>hk.2) (.int .i64 a1)) (fun _ hk=>hk.1),bl HB,by repeat (first | (with_reducible first | exact HK.out | apply Kept.alloc | apply Kept.drewN | apply Kept.drew | refine Kept.setCell ?_ (.inr b8.out) _) | exact HK.out)⟩
end Go.Proofs.Ytjohcjfmlhihbaa.G
namespace Go.Proofs.Ytjohcjfmlhihbaa.G
open Go Go.RowKit Go.Proofs.YtjohcjfmlhihbaaW.PrintWords Go.Proofs.YtjohcjfmlhihbaaW.PrintLast Go.Proofs.YtjohcjfmlhihbaaW.PrintMore
theorem cT {w w':World} {p:Addr} {v:Value} (h:Aside0 (Below w.heap.size w w')) (x:w.cell? p = some v):w'.cell? p = some v:=(h.out.cell (World.block_lt_of_cell? w _ x)).trans x
theorem cU {w w':World} {p:Addr} {v:Value} (h:Below w.heap.size w w') (x:w.cell? p = some v):w'.cell? p = some v:=(h.cell (World.block_lt_of_cell? w _ x)).trans x
theorem cf8 {W:World} {g o:Nat} {a ad:Addr} {u:Value} (h:ad.block ≠ g) (e:a.block = ad.block:=by first | rfl | (rw [add_block]) | (dsimp only)):(W.setCell ⟨g,o,none⟩ u).cell? a = W.cell? a:=cell_far (p:=⟨g,o,none⟩) (by rw [e];exact h) _
theorem oa_ {p:Prop} [Decidable p] (h:decide p = true:=by first | (with_reducible assumption) | assumption):p:=of_decide_eq_true h
theorem rf_ {p:Prop} (h:p:=by first | rfl | (simp;done) | (simp [*];done)):p:=h
theorem kr_ {a b:Prop} (h:Aside0 a) (k:a → b:=by intro h_;(with_reducible repeat (first | apply Kd.R_alloc | apply Kd.R_drewN | apply Kd.R_drew));exact h_):b:=k h.out
theorem dr_ {a b:Prop} (h:Aside0 a) (k:a → b:=by intro h_;(with_reducible repeat (first | refine blk_drewN ?_ _ | refine blk_drew ?_ | refine blk_alloc ?_ _));exact h_):b:=k h.out
theorem bf2_ {a b c d:Prop} (f:Aside0 c) (g:Aside0 d) (h:Aside0 a) (k:c → d → a → b:=by intro f_ g_ h_;(with_reducible repeat (first | refine blk_drewN ?_ _ | refine blk_drew ?_ | refine blk_alloc ?_ _));refine blk_far ?_ f_ _;(with_reducible repeat (first | refine blk_drewN ?_ _ | refine blk_drew ?_ | refine blk_alloc ?_ _));refine blk_far ?_ g_ _;(with_reducible repeat (first | refine blk_drewN ?_ _ | refine blk_drew ?_ | refine blk_alloc ?_ _));exact h_):b:=k f.out g.out h.out
theorem kc_ {a b:Prop} (h:a) (k:a → b:=by intro h_;repeat (first | exact h_ | (with_reducible refine Kd.C_alloc ?_ _) | (with_reducible refine Kd.C_drewN ?_ _) | (with_reducible refine Kd.C_drew ?_))):b:=k h
end Go.Proofs.Ytjohcjfmlhihbaa.G
namespace Go.Proofs.Ytjohcjfmlhihbaa.G
open Go.RowKit Go.Proofs.YtjohcjfmlhihbaaW.PrintWords Go.Proofs.YtjohcjfmlhihbaaW.PrintLast Go.Proofs.YtjohcjfmlhihbaaW.PrintMore
set_option maxHeartbeats 8000000
set_option maxRecDepth 100000
attribute [local go_sem] cond_true cond_false fld23_0 fld23_1 fld45_0 fld45_1 fld109_0 fld109_1 fld94_0 fld94_1 max2_int min2_int max_two min_two max_three min_three max_four min_four   -- for this text's walks alone
def shares_gcd.l0:Nat → Int → Int → Option (Int)
 | 0,_,_=>none
 | k + 1,x0,x1=>if x1 > 0 then (if x1 = 0 then (none) else (shares_gcd.l0 k x1 (Int.tmod x0 x1))) else (some x0)
def shares_gcd.f (k:Nat) (a0:Int) (a1:Int):Option (Int):=shares_gcd.l0 k a0 a1
theorem shares_gcd.mono_l:∀ k,(∀ y0 y1,LeO (shares_gcd.l0 k y0 y1) (shares_gcd.l0 (k + 1) y0 y1))
 | 0=>fun _ _ r h=>by simp [shares_gcd.l0] at h
 | k + 1=>by
  have b2:=shares_gcd.mono_l k;intro y0 y1;unfold shares_gcd.l0
  repeat' first
  | (with_reducible exact b2 _ _)
  | (with_reducible exact LeO.refl _)
  | (with_reducible exact LeO.none _)
  | (with_reducible refine LeO.ite ?_ ?_)
  | (with_reducible refine LeO.bind ?_ (fun _=>?_))
  | exact b2 _ _
  | exact LeO.none _
  | refine LeO.ite ?_ ?_
  | refine LeO.bind ?_ (fun _=>?_)
theorem shares_gcd.mono:∀ a0 a1 k,LeO (shares_gcd.f k a0 a1) (shares_gcd.f (k + 1) a0 a1):=by
 intro a0 a1 k;have b2:=shares_gcd.mono_l k;unfold shares_gcd.f
 repeat' first
   | (with_reducible exact b2 _ _)
   | (with_reducible exact LeO.refl _)
   | (with_reducible exact LeO.none _)
   | (with_reducible refine LeO.ite ?_ ?_)
   | (with_reducible refine LeO.bind ?_ (fun _=>?_))
   | exact b2 _ _
   | exact LeO.none _
   | refine LeO.ite ?_ ?_
   | refine LeO.bind ?_ (fun _=>?_)
theorem shares_gcd.calls (k:Nat) (a0:Int) (a1:Int) (r:Int) (w:World) (h:shares_gcd.f k a0 a1 = some r) :
  Calls Try.prog 116 #[.int .i64 a0,.int .i64 a1] w fun e w'=>e = .returned (.int .i64 r) ∧ Drawn0 w w':=by
 have H:(shares_gcd.l0 k a0 a1) = some r:=h;clear h;have H':=Aside0.mk H;clear H;go_enter Try.func116,Try.ntmps116;go_wp2;repeat (go_quiet (fail);try go_wp2)
 go_loopg [0,1] k (fun kq v0 v1 w'=>∃ (b1:Int) (b0:Int),v0 = .int .i64 b1 ∧ v1 = .int .i64 b0 ∧ Aside0 (shares_gcd.l0 kq b1 b0 = some r) ∧ Aside0 (kq ≤ k) ∧ Drawn0 w w')
 case atStart=>exact ⟨(a0),(a1),(by first | rfl | (simp;done) | (simp [*];done)),(by first | rfl | (simp;done) | (simp [*];done)),H',⟨Nat.le_refl _⟩,by repeat (first | exact Drawn0.refl _ | apply Drawn0.step)⟩
 case round =>
  clear H';try clear c1
  try clear p2
  obtain ⟨b1,b0,rfl,rfl,HA,b4,⟨m1,rfl⟩⟩:=hrel
  cases gk with
  | zero=>exact absurd HA.out (by simp [shares_gcd.l0])
  | succ k1 =>
   have H:=HA.out;clear HA;simp only [shares_gcd.l0] at H;by_cases c3:b0 > 0
   case neg =>
    rw [if_neg c3] at H;have b3:decide (0 < b0) = false:=decide_eq_false c3;clear c3;obtain rfl:=Option.some.inj H;go_wp2;repeat (go_quiet (fail);try go_wp2)
    go_ret;exact ⟨by first | rfl | (simp;done) | (simp [*];done),by repeat (first | exact Drawn0.refl _ | apply Drawn0.step)⟩
   rw [if_pos c3] at H;have b3:decide (0 < b0) = true:=decide_eq_true c3;clear c3;by_cases c4:b0 = 0
   ·rw [if_pos c4] at H;exact absurd H (by simp)
   rw [if_neg c4] at H;have b5:(b0 == 0) = false:=beq_eq_false_iff_ne.mpr c4;have b6:(b0 != 0) = true:=bne_iff_ne.mpr c4;have H':=Aside0.mk H;clear H;go_wp2;repeat (go_quiet (fail);try go_wp2)
   go_roundg k1
   case measure=>have:=b4.out;omega
   case rel=>exact ⟨(b0),(Int.tmod b1 b0),(by first | rfl | (simp;done) | (simp [*];done)),(by first | rfl | (simp;done) | (simp [*];done)),H',⟨by have:=b4.out;omega⟩,by repeat (first | exact Drawn0.refl _ | apply Drawn0.step)⟩
def shares_frac.f (k:Nat) (a0:Int) (a1:Int):Option (Int × Int):=(shares_gcd.f k (mx a0 (wrap64 (-a0))) a1).bind fun b0=>(if b0 = 0 then (none) else (some (wrap64 (Int.tdiv a0 b0),wrap64 (Int.tdiv a1 b0))))
theorem shares_frac.mono:∀ a0 a1 k,LeO (shares_frac.f k a0 a1) (shares_frac.f (k + 1) a0 a1):=by
 intro a0 a1 k;unfold shares_frac.f
 repeat' first
   | (with_reducible exact shares_gcd.mono _ _ _)
   | (with_reducible exact LeO.refl _)
   | (with_reducible exact LeO.none _)
   | (with_reducible refine LeO.ite ?_ ?_)
   | (with_reducible refine LeO.bind ?_ (fun _=>?_))
   | exact shares_gcd.mono _ _ _
   | exact LeO.none _
   | refine LeO.ite ?_ ?_
   | refine LeO.bind ?_ (fun _=>?_)
def shares_frac.T2:Bool × List (List Nat × List Nat):=(true,[([],[]),([],[]),([0,1],[0,1]),([],[]),([],[]),([3,4],[3,4]),([2,5],[2,5]),([6,0,1,2,3,4,5,6],[6])])
def shares_frac.B2:List Nat:=[0,0,3,0,0,24,63,127]
theorem shares_frac.tab2:rtab .any (opsOf Try.f117 2) = shares_frac.T2:=by kernel_rfl
theorem shares_frac.bits2:waitsOk shares_frac.T2.2 shares_frac.B2 = true:=by kernel_rfl
theorem shares_frac.calls (k:Nat) (a0:Int) (a1:Int) (r1:Int) (r2:Int) (w:World) (h:shares_frac.f k a0 a1 = some (r1,r2)) :
  Calls Try.prog 117 #[.int .i64 a0,.int .i64 a1] w fun e w'=>e = .returned (.agg #[.int .i64 r1,.int .i64 r2]) ∧ Below w.heap.size w w':=by
 have d1:=Try.underlying23;have HB:=Aside0.mk (Below.refl w.heap.size w);have H:((shares_gcd.f k (mx a0 (wrap64 (-a0))) a1).bind fun b0=>(if b0 = 0 then (none) else (some (wrap64 (Int.tdiv a0 b0),wrap64 (Int.tdiv a1 b0))))) = some (r1,r2):=h;clear h;obtain ⟨b7,b3⟩:∃ j_:Int,(mx a0 (wrap64 (-a0))) = j_:=⟨_,rfl⟩
 replace H:((shares_gcd.f k (b7) a1).bind fun b0=>(if b0 = 0 then (none) else (some (wrap64 (Int.tdiv a0 b0),wrap64 (Int.tdiv a1 b0))))) = some (r1,r2):=by first | (rw [b3] at H;exact H) | (simp only [b3] at H ⊢;exact H)
 have b8:(if a0 < (wrap64 (-a0)) then (wrap64 (-a0)) else a0) = b7:=b3;replace H:=Option.bind_eq_some_iff.mp H;obtain ⟨b0,b9,H⟩:=H;replace H:(if b0 = 0 then (none) else (some (wrap64 (Int.tdiv a0 b0),wrap64 (Int.tdiv a1 b0)))) = some (r1,r2):=H;have A4:=Aside0.mk b9;clear b9;by_cases c5:b0 = 0
 ·rw [if_pos c5] at H;exact absurd H (by simp)
 rw [if_neg c5] at H;have d2:(b0 == 0) = false:=beq_eq_false_iff_ne.mpr c5;have d3:(b0 != 0) = true:=bne_iff_ne.mpr c5;simp only [Option.some.injEq,Prod.mk.injEq] at H;obtain ⟨rfl,rfl⟩:=H;go_enter Try.func117,Try.ntmps117;try go_wp2_with (first | ((with_reducible refine gate_dst (N:=4) rfl ?_);refine box_event ?hg (N:=4) ?hd (cs:=#[.int .i64 0,.int .i64 0]) (t:=23) ?hr ?_;(case hd=>rfl);(case hg=>rfl);(case hr=>first | (go_simp;done) | (go_simp;rfl));intro b2 hg w6 hbox hb;have b4:=Aside0.mk (below_step (by repeat (first | (with_reducible first | exact HB.out | apply below_alloc | apply pw_below_drewN | apply below_drew1) | exact HB.out)) hb);have b5:=Aside0.mk (hbox);have c0:=Aside0.mk ((by rw [hg];exact (below_size (by repeat (first | (with_reducible first | exact HB.out | apply below_alloc | apply pw_below_drewN | apply below_drew1) | exact HB.out))):w.heap.size ≤ b2));have c1:=Aside0.mk ((by rw [hg];exact (below_size (by repeat (first | (with_reducible first | exact HB.out | apply below_alloc | apply pw_below_drewN | apply below_drew1) | exact HB.out))):w.heap.size ≤ b2));clear HB;have HB:=b4;have b1:=b5;have d0:=c0;have b6:=c1;clear b4 b5 c0 c1;clear hb hbox hg) | ((with_reducible refine gate_callee (f:=116) rfl ?_);refine goesL_ (some 11) rfl rfl Try.func116 (by kernel_rfl) rfl #[.int .i64 b7,.int .i64 a1] rfl (by (try simp only [List.map_toArray,List.map_cons,List.map_nil]);first | done | (simp only [b3];rfl) | rfl | (simp only [List.length_drop,List.length_take];rfl)) ?_;(with_reducible refine (shares_gcd.calls k b7 a1 b0 _ A4.out).mono ?_);rintro e w' ⟨rfl,⟨nd,rfl⟩⟩;refine ⟨_,rfl,?_⟩;(try (rw [drewN_self w6];generalize hq_:World.drewN w6 _ = w6;have b4:Aside0 (w6.heap[b2]? = some (.cells #[.int .i64 0,.int .i64 0] 23 (0,0))):=⟨by rw [← hq_];exact (by (with_reducible repeat (first | refine blk_drewN ?_ _ | refine blk_drew ?_ | refine blk_alloc ?_ _));exact b1.out)⟩;have b5:Aside0 (Below w.heap.size w w6):=⟨by rw [← hq_];exact (by repeat (first | (with_reducible first | exact HB.out | apply below_alloc | apply pw_below_drewN | apply below_drew1 | refine below_set ?_ b6.out) | exact HB.out))⟩;clear b1 HB hq_;have b1:=b4;have HB:=b5;clear b4 b5))))
 have b4:=Aside0.mk (blk_drew b1.out);have b5:=Aside0.mk (below_drew1 HB.out);clear b1;clear HB;have b1:=b4;have HB:=b5;clear b4 b5;refine start_ (n:=8) (S:=fun w'=>True) (ds:=[]) #[false,false,false,false,false,false,false,false] (by kernel_rfl) rfl rfl trivial (fun hHeld=>?_);refine with_tabW shares_frac.tab2 shares_frac.bits2 (fun HT_ HW_=>?_);generalize w6.drew = w7 at b1 HB hHeld ⊢;refine pure_ (i:=0) (N:=some 12) (v:=?_) (a':=?_) #[true,false,false,false,false,false,false,false] rfl rfl (any_of HT_.out (by kernel_rfl)) (fun _ _ _ h=>h) (Or.inl ⟨by rfl,?_⟩) ?_ ?_;rotate_left
 ·intro w';go_simp;with_reducible rfl
 rotate_left
 ·simp only [Act.put,List.setIfInBounds_toArray,List.set_cons_zero,List.set_cons_succ,i64_w,i32_w];rfl
 refine pure_ (i:=1) (N:=some 13) (v:=?_) (a':=?_) #[true,true,false,false,false,false,false,false] rfl rfl (any_of HT_.out (by kernel_rfl)) (fun _ _ _ h=>h) (Or.inl ⟨by rfl,?_⟩) ?_ ?_;rotate_left
 ·intro w';go_simp;with_reducible rfl
 rotate_left
 ·simp only [Act.put,List.setIfInBounds_toArray,List.set_cons_zero,List.set_cons_succ,i64_w,i32_w];rfl
 refine pure_ (i:=2) (N:=some 14) (v:=?_) (a':=?_) #[true,true,true,false,false,false,false,false] rfl rfl (any_of HT_.out (by kernel_rfl)) (fun _ _ _ h=>h) (Or.inl ⟨by rfl,?_⟩) ?_ ?_;rotate_left
 ·intro w';go_simp;with_reducible rfl
 rotate_left
 ·simp only [Act.put,List.setIfInBounds_toArray,List.set_cons_zero,List.set_cons_succ,i64_w,i32_w];rfl
 refine pure_ (i:=3) (N:=some 15) (v:=?_) (a':=?_) #[true,true,true,true,false,false,false,false] rfl rfl (any_of HT_.out (by kernel_rfl)) (fun _ _ _ h=>h) (Or.inl ⟨by rfl,?_⟩) ?_ ?_;rotate_left
 ·intro w';go_simp;with_reducible rfl
 rotate_left
 ·simp only [Act.put,List.setIfInBounds_toArray,List.set_cons_zero,List.set_cons_succ,i64_w,i32_w];rfl
 refine pure_ (i:=4) (N:=some 16) (v:=?_) (a':=?_) #[true,true,true,true,true,false,false,false] rfl rfl (any_of HT_.out (by kernel_rfl)) (fun _ _ _ h=>h) (Or.inl ⟨by rfl,?_⟩) ?_ ?_;rotate_left
 ·intro w';go_simp;with_reducible rfl
 rotate_left
 ·simp only [Act.put,List.setIfInBounds_toArray,List.set_cons_zero,List.set_cons_succ,i64_w,i32_w];rfl
 refine pure_ (i:=5) (N:=some 17) (v:=?_) (a':=?_) #[true,true,true,true,true,true,false,false] rfl rfl (any_of HT_.out (by kernel_rfl)) (fun _ _ _ h=>h) (Or.inl ⟨by rfl,?_⟩) ?_ ?_;rotate_left
 ·intro w';go_simp;with_reducible rfl
 rotate_left
 ·simp only [Act.put,List.setIfInBounds_toArray,List.set_cons_zero,List.set_cons_succ,i64_w,i32_w];rfl
 refine pure_ (i:=6) (N:=some 18) (v:=?_) (a':=?_) #[true,true,true,true,true,true,true,false] rfl rfl (any_of HT_.out (by kernel_rfl)) (fun _ _ _ h=>h) (Or.inl ⟨by rfl,?_⟩) ?_ ?_;rotate_left
 ·intro w';go_simp;with_reducible rfl
 rotate_left
 ·simp only [Act.put,List.setIfInBounds_toArray,List.set_cons_zero,List.set_cons_succ,i64_w,i32_w];rfl
 refine one_ (i:=7) (N:=none) #[true,true,true,true,true,true,true,true] rfl rfl (one_of HT_.out (by kernel_rfl)) (by decide) (fun K hK=>?_);have d6:w7.cell? ⟨b2,0,none⟩ = some (.int .i64 0):=(blk_cell b1.out 0).trans rfl;have d4:=blk_frozen b1.out 0;have d7:w7.cell? ⟨b2,1,none⟩ = some (.int .i64 0):=(blk_cell b1.out 1).trans rfl;have d5:=blk_frozen b1.out 1;refine skip_ (w1:=?_) (by rfl) rfl ?_ ?_;rotate_left
 ·go_simp;rfl
 refine hK.out _ _ trivial (fun hHeld=>?_);clear hK K;refine done_ (done_of HT_.out (by kernel_rfl)) ?_;try go_wp2
 refine bodyPost_ret (results_cell_row rfl _ _ b2 23 #[.int .i64 (wrap64 (Int.tdiv a0 b0)),.int .i64 (wrap64 (Int.tdiv a1 b0))] (0,0) _ rfl (by (with_reducible repeat (first | refine blk_drewN ?_ _ | refine blk_drew ?_ | refine blk_alloc ?_ _));refine blk_put (cs:=#[.int .i64 (wrap64 (Int.tdiv a0 b0)),.int .i64 0]) ?_ 1 _ rfl;(with_reducible repeat (first | refine blk_drewN ?_ _ | refine blk_drew ?_ | refine blk_alloc ?_ _));refine blk_put (cs:=#[.int .i64 0,.int .i64 0]) ?_ 0 _ rfl;(with_reducible repeat (first | refine blk_drewN ?_ _ | refine blk_drew ?_ | refine blk_alloc ?_ _));exact b1.out) Try.underlying23 rfl (by kernel_rfl)) rfl ?_;exact ⟨by first | rfl | (simp [errW_none,errW_some] <;> rfl) | (simp only [← b3];first | rfl | (simp [errW_none,errW_some] <;> rfl)) | (simp [*,errW_none,errW_some] <;> rfl),by repeat (first | (with_reducible first | exact HB.out | apply below_alloc | apply pw_below_drewN | apply below_drew1 | refine below_set ?_ b6.out) | exact HB.out)⟩
end Go.Proofs.Ytjohcjfmlhihbaa.G
namespace Go.Proofs.Ytjohcjfmlhihbaa.G
open Go.RowKit Go.Proofs.YtjohcjfmlhihbaaW.PrintWords Go.Proofs.YtjohcjfmlhihbaaW.PrintLast Go.Proofs.YtjohcjfmlhihbaaW.PrintMore
set_option maxHeartbeats 8000000
set_option maxRecDepth 100000
attribute [local go_sem] cond_true cond_false fld23_0 fld23_1 fld45_0 fld45_1 fld109_0 fld109_1 fld94_0 fld94_1 max2_int min2_int max_two min_two max_three min_three max_four min_four
def shares_add.f (k:Nat) (d0:Int) (b5:Int) (d1:Int) (b6:Int):Option (Int × Int):=(shares_gcd.f k b5 b6).bind fun b3=>(if b3 = 0 then (none) else ((shares_frac.f k (wrap64 ((wrap64 (d0 * (wrap64 (Int.tdiv b6 b3)))) + (wrap64 (d1 * (wrap64 (Int.tdiv b5 b3)))))) (wrap64 ((wrap64 (Int.tdiv b5 b3)) * b6))).bind fun c1=>(some (c1.1,c1.2))))
theorem shares_add.mono:∀ a0 a1 a2 a3 k,LeO (shares_add.f k a0 a1 a2 a3) (shares_add.f (k + 1) a0 a1 a2 a3):=by
 intro a0 a1 a2 a3 k;unfold shares_add.f
 repeat' first
   | (with_reducible first | exact shares_frac.mono _ _ _ | exact shares_gcd.mono _ _ _ | exact LeO.refl _ | exact LeO.none _ | refine LeO.ite ?_ ?_ | refine LeO.bind ?_ (fun _=>?_))
   | exact LeO.none _ | refine LeO.ite ?_ ?_ | refine LeO.bind ?_ (fun _=>?_)
def shares_add.T2:Bool × List (List Nat × List Nat):=(true,[([],[]),([0],[0]),([],[]),([2],[2]),([],[]),([3,4],[3,4]),([1,5],[1,5]),([],[]),([7],[7]),([],[]),([9],[9]),([],[]),([10,11],[10,11]),([8,12],[8,12]),([6,13],[6,13]),([],[]),([15],[15]),([],[]),([16,17],[16,17]),([],[]),([19],[19]),([18,20],[18,20]),([14,21],[14,21]),([22,22,0,1,2,3,4,5,6,7,8,9,10,11,12,13,14,15,16,17,18,19,20,21,22],[22])])
def shares_add.B2:List Nat:=[0,1,0,4,0,28,63,0,128,0,512,0,3584,8064,16383,0,32768,0,229376,0,524288,2064384,4194303,8388607]
theorem shares_add.tab2:rtab .any (opsOf Try.f88 2) = shares_add.T2:=by kernel_rfl
theorem shares_add.bits2:waitsOk shares_add.T2.2 shares_add.B2 = true:=by kernel_rfl
theorem shares_add.calls (k:Nat) (d0:Int) (b5:Int) (d1:Int) (b6:Int) (r1:Int) (r2:Int) (w:World) (h:shares_add.f k d0 b5 d1 b6 = some (r1,r2)) :
  Calls Try.prog 88 #[.agg #[.int .i64 d0,.int .i64 b5],.agg #[.int .i64 d1,.int .i64 b6]] w fun e w'=>e = .returned (.agg #[.int .i64 r1,.int .i64 r2]) ∧ Below w.heap.size w w':=by
 have i8:=Try.underlying23;have HB:=A_ (Below.refl w.heap.size w);have H:((shares_gcd.f k b5 b6).bind fun b3=>(if b3 = 0 then (none) else ((shares_frac.f k (wrap64 ((wrap64 (d0 * (wrap64 (Int.tdiv b6 b3)))) + (wrap64 (d1 * (wrap64 (Int.tdiv b5 b3)))))) (wrap64 ((wrap64 (Int.tdiv b5 b3)) * b6))).bind fun c1=>(some (c1.1,c1.2))))) = some (r1,r2):=h;clear h;replace H:=Option.bind_eq_some_iff.mp H;obtain ⟨b3,h7,H⟩:=H;replace H:(if b3 = 0 then (none) else ((shares_frac.f k (wrap64 ((wrap64 (d0 * (wrap64 (Int.tdiv b6 b3)))) + (wrap64 (d1 * (wrap64 (Int.tdiv b5 b3)))))) (wrap64 ((wrap64 (Int.tdiv b5 b3)) * b6))).bind fun c1=>(some (c1.1,c1.2)))) = some (r1,r2):=H;have A3:=A_ h7;clear h7;replace H:=ge H;obtain ⟨c4,H⟩:=H;have i9:(b3 == 0) = false:=beq_eq_false_iff_ne.mpr c4;have j5:(b3 != 0) = true:=bne_iff_ne.mpr c4;replace H:=Option.bind_eq_some_iff.mp H;obtain ⟨⟨d6,d7⟩,A50,H⟩:=H;dsimp only at H;have A5:=A_ A50;clear A50;simp only [Option.some.injEq,Prod.mk.injEq] at H;obtain ⟨rfl,rfl⟩:=H;go_enter Try.func88,Try.ntmps88;try go_wp2_with (first | ((with_reducible refine gate_dst (N:=2) rfl ?_);refine bx 2 #[.int .i64 d0,.int .i64 b5] 23 ?_;intro d2 hg w6 hbox hb;have b0:=A_ hbox;have d8:=gw hg HB;have h8:=d8;replace HB:=bB HB hb;clear hb hbox hg) | ((with_reducible refine gate_dst (N:=3) rfl ?_);refine bx 3 #[.int .i64 d1,.int .i64 b6] 23 ?_;intro d3 hg w7 hbox hb;have b4:=A_ hbox;have d9:=gw hg HB;have h9:=d9;have d4:=nl hg b0;have d5:=ng hg b0;replace b0:=kB b0 hb;replace HB:=bB HB hb;clear hb hbox hg) | ((with_reducible refine gate_dst (N:=4) rfl ?_);refine bx 4 #[.int .i64 0,.int .i64 0] 23 ?_;intro b7 hg w8 hbox hb;have b8:=A_ hbox;have e0:=gw hg HB;have i0:=e0;have b1:=nl hg b0;have b9:=ng hg b0;have b2:=nl hg b4;have c0:=ng hg b4;replace b0:=kB b0 hb;replace b4:=kB b4 hb;replace HB:=bB HB hb;clear hb hbox hg;have j7:=d4.out;have j8:=d5.out;have i1:=b1.out;have i2:=b9.out;have e1:w8.cell? ⟨d2,0,none⟩ = some (.int .i64 d0):=cz b0 0;have e2:w8.cell? ⟨d2,1,none⟩ = some (.int .i64 b5):=cz b0 1;have e3:=blk_frozen b0.out 0;have e4:=blk_frozen b0.out 1;have i3:=b2.out;have i4:=c0.out;have e5:w8.cell? ⟨d3,0,none⟩ = some (.int .i64 d1):=cz b4 0;have e6:w8.cell? ⟨d3,1,none⟩ = some (.int .i64 b6):=cz b4 1;have e7:=blk_frozen b4.out 0;have e8:=blk_frozen b4.out 1) | ((with_reducible refine gate_callee (f:=116) rfl ?_);refine gL (some 10) Try.func116 #[.int .i64 b5,.int .i64 b6] ?_;(with_reducible refine (shares_gcd.calls k b5 b6 b3 _ A3.out).mono ?_);rintro e w' ⟨rfl,⟨nd,rfl⟩⟩;refine ⟨_,rfl,?_⟩;(try (rw [drewN_self w8];generalize hq_:World.drewN w8 _ = w8;replace b0:Aside0 (w8.heap[d2]? = some (.cells #[.int .i64 d0,.int .i64 b5] 23 (0,0))):=⟨by rw [← hq_];exact b0.out⟩;replace b4:Aside0 (w8.heap[d3]? = some (.cells #[.int .i64 d1,.int .i64 b6] 23 (0,0))):=⟨by rw [← hq_];exact b4.out⟩;replace b8:Aside0 (w8.heap[b7]? = some (.cells #[.int .i64 0,.int .i64 0] 23 (0,0))):=⟨by rw [← hq_];exact b8.out⟩;replace HB:Aside0 (Below w.heap.size w w8):=⟨by rw [← hq_];exact (bl HB)⟩;clear hq_))))
 replace b0:=kD b0;replace b4:=kD b4;replace b8:=kD b8;replace HB:=bD HB;refine st 24 (fun w'=>w'.cell? ⟨d2,0,none⟩ = some (.int .i64 d0) ∧ w'.cell? ⟨d2,1,none⟩ = some (.int .i64 b5) ∧ w'.cell? ⟨d3,0,none⟩ = some (.int .i64 d1) ∧ w'.cell? ⟨d3,1,none⟩ = some (.int .i64 b6)) [] shares_add.tab2 shares_add.bits2 (fun hHeld HT_ HW_=>?_);generalize w8.drew = l6 at b0 b4 b8 HB hHeld ⊢;refine pq 0 11 1 HT_ ?_;refine pq 2 13 5 HT_ ?_;refine pq 4 15 21 HT_ ?_;refine pq 7 18 149 HT_ ?_;refine pq 9 20 661 HT_ ?_;refine pq 11 22 2709 HT_ ?_;refine pq 15 26 35477 HT_ ?_;refine pq 17 28 166549 HT_ ?_;refine pq 19 30 690837 HT_ ?_;refine tq 1 12 690839 HT_ HW_ hHeld ?_;refine tq 3 14 690847 HT_ HW_ hHeld ?_;refine pq 5 16 690879 HT_ ?_;refine pq 6 17 690943 HT_ ?_;refine tq 8 19 691199 HT_ HW_ hHeld ?_;refine tq 10 21 692223 HT_ HW_ hHeld ?_;refine pq 12 23 696319 HT_ ?_;refine pq 13 24 704511 HT_ ?_;refine pq 14 25 720895 HT_ ?_;refine tq 16 27 786431 HT_ HW_ hHeld ?_;refine pq 18 29 1048575 HT_ ?_;refine tq 20 31 2097151 HT_ HW_ hHeld ?_;refine pq 21 32 4194303 HT_ ?_;refine oq 22 33 8388607 HT_ (fun K hK=>?_);refine gq Try.func117 #[.int .i64 (wrap64 ((wrap64 (d0 * (wrap64 (Int.tdiv b6 b3)))) + (wrap64 (d1 * (wrap64 (Int.tdiv b5 b3)))))),.int .i64 (wrap64 ((wrap64 (Int.tdiv b5 b3)) * b6))] ?_;with_reducible refine (shares_frac.calls k (wrap64 ((wrap64 (d0 * (wrap64 (Int.tdiv b6 b3)))) + (wrap64 (d1 * (wrap64 (Int.tdiv b5 b3)))))) (wrap64 ((wrap64 (Int.tdiv b5 b3)) * b6)) d6 d7 _ A5.out).mono ?_;rintro e i5 ⟨rfl,hb⟩;refine ⟨_,rfl,?_⟩;replace b0:=kB b0 hb;replace b4:=kB b4 hb;replace b8:=kB b8 hb;replace HB:=bB HB hb;(try clear hb)
 refine hz hK (fun hHeld=>?_);clear hK K;refine nq 33 ?_;refine one_ (i:=23) (N:=none) (ba 24 16777215) rfl rfl (one_of HT_.out (by kernel_rfl)) (by decide) (fun K hK=>?_);have j9:i5.cell? ⟨b7,0,none⟩ = some (.int .i64 0):=cz b8 0;have i6:=blk_frozen b8.out 0;have e9:=b1.out;have h0:=b2.out;have h1:=b9.out;have h2:=c0.out;have l5:i5.cell? ⟨b7,1,none⟩ = some (.int .i64 0):=cz b8 1;have i7:=blk_frozen b8.out 1;have h3:=b1.out;have h4:=b2.out;have h5:=b9.out;have h6:=c0.out;refine skip_ (w1:=?_) (by rfl) rfl ?_ ?_;rotate_left
 ·go_simp;rfl
 refine hK.out _ _ ⟨((cell_far (p:=⟨b7,_,none⟩) b1.out _).trans (((cell_far (p:=⟨b7,_,none⟩) b1.out _).trans (hHeld.1)))),((cell_far (p:=⟨b7,_,none⟩) b1.out _).trans (((cell_far (p:=⟨b7,_,none⟩) b1.out _).trans (hHeld.2.1)))),((cell_far (p:=⟨b7,_,none⟩) b2.out _).trans (((cell_far (p:=⟨b7,_,none⟩) b2.out _).trans (hHeld.2.2.1)))),((cell_far (p:=⟨b7,_,none⟩) b2.out _).trans (((cell_far (p:=⟨b7,_,none⟩) b2.out _).trans (hHeld.2.2.2))))⟩ (fun hHeld=>?_);clear hK K;refine done_ (done_of HT_.out (by kernel_rfl)) ?_;try go_wp2
 refine bodyPost_ret (results_cell_row rfl _ _ b7 23 #[.int .i64 d6,.int .i64 d7] (0,0) _ rfl (by (with_reducible repeat (first | refine blk_drewN ?_ _ | refine blk_drew ?_ | refine blk_alloc ?_ _));refine blk_put (cs:=#[.int .i64 d6,.int .i64 0]) ?_ 1 _ rfl;(with_reducible repeat (first | refine blk_drewN ?_ _ | refine blk_drew ?_ | refine blk_alloc ?_ _));refine blk_put (cs:=#[.int .i64 0,.int .i64 0]) ?_ 0 _ rfl;(with_reducible repeat (first | refine blk_drewN ?_ _ | refine blk_drew ?_ | refine blk_alloc ?_ _));exact b8.out) Try.underlying23 rfl (by kernel_rfl)) rfl ?_;exact ⟨rfl,bl HB⟩
end Go.Proofs.Ytjohcjfmlhihbaa.G
namespace Go.Proofs.Ytjohcjfmlhihbaa.G
open Go.RowKit Go.Proofs.YtjohcjfmlhihbaaW.PrintWords Go.Proofs.YtjohcjfmlhihbaaW.PrintLast Go.Proofs.YtjohcjfmlhihbaaW.PrintMore
set_option maxHeartbeats 8000000
set_option maxRecDepth 100000
attribute [local go_sem] cond_true cond_false fld23_0 fld23_1 fld45_0 fld45_1 fld109_0 fld109_1 fld94_0 fld94_1 max2_int min2_int max_two min_two max_three min_three max_four min_four   -- for this text's walks alone
def shares_whole.f (a0:Int):Option (Int × Int):=some (a0,1)
theorem shares_whole.calls (a0:Int) (r1:Int) (r2:Int) (w:World) (h:shares_whole.f a0 = some (r1,r2)) :
  Calls Try.prog 64 #[.int .i64 a0] w fun e w'=>e = .returned (.agg #[.int .i64 r1,.int .i64 r2]) ∧ Below w.heap.size w w':=by
 have d0:=Try.underlying23;have HB:=Aside0.mk (Below.refl w.heap.size w);have H:(some (a0,1)) = some (r1,r2):=h;clear h;simp only [Option.some.injEq,Prod.mk.injEq] at H;obtain ⟨rfl,rfl⟩:=H;go_enter Try.func64,Try.ntmps64;go_wp2_with (first | ((with_reducible refine gate_dst (N:=2) rfl ?_);refine box_event ?hg (N:=2) ?hd (cs:=#[.int .i64 0,.int .i64 0]) (t:=23) ?hr ?_;(case hd=>rfl);(case hg=>rfl);(case hr=>first | (go_simp;done) | (go_simp;rfl));intro b0 hg w2 hbox hb;have b7:=Aside0.mk (below_step (by repeat (first | (with_reducible first | exact HB.out | apply below_alloc | apply pw_below_drewN | apply below_drew1) | exact HB.out)) hb);have b8:=Aside0.mk (hbox);have b9:=Aside0.mk ((by rw [hg];exact (below_size (by repeat (first | (with_reducible first | exact HB.out | apply below_alloc | apply pw_below_drewN | apply below_drew1) | exact HB.out))):w.heap.size ≤ b0));have c0:=Aside0.mk ((by rw [hg];exact (below_size (by repeat (first | (with_reducible first | exact HB.out | apply below_alloc | apply pw_below_drewN | apply below_drew1) | exact HB.out))):w.heap.size ≤ b0));clear HB;have HB:=b7;have b1:=b8;have c1:=b9;have b2:=c0;clear b7 b8 b9 c0;clear hb hbox hg;have b3:w2.cell? ⟨b0,0,none⟩ = some (.int .i64 0):=(blk_cell b1.out 0).trans rfl;have b4:w2.cell? ⟨b0,1,none⟩ = some (.int .i64 0):=(blk_cell b1.out 1).trans rfl;have b5:=blk_frozen b1.out 0;have b6:=blk_frozen b1.out 1));refine bodyPost_ret (results_cell_row rfl _ _ b0 23 #[.int .i64 a0,.int .i64 1] (0,0) _ rfl (by (with_reducible repeat (first | refine blk_drewN ?_ _ | refine blk_drew ?_ | refine blk_alloc ?_ _));refine blk_put (cs:=#[.int .i64 a0,.int .i64 0]) ?_ 1 _ rfl;(with_reducible repeat (first | refine blk_drewN ?_ _ | refine blk_drew ?_ | refine blk_alloc ?_ _));refine blk_put (cs:=#[.int .i64 0,.int .i64 0]) ?_ 0 _ rfl;(with_reducible repeat (first | refine blk_drewN ?_ _ | refine blk_drew ?_ | refine blk_alloc ?_ _));exact b1.out) Try.underlying23 rfl (by kernel_rfl)) rfl ?_;exact ⟨by first | rfl | (simp [errW_none,errW_some] <;> rfl) | (simp [*,errW_none,errW_some] <;> rfl),by repeat (first | (with_reducible first | exact HB.out | apply below_alloc | apply pw_below_drewN | apply below_drew1 | refine below_set ?_ b2.out) | exact HB.out)⟩
def shares_minus.f (k:Nat) (b3:Int) (b4:Int) (b5:Int) (b6:Int):Option (Int × Int):=(shares_add.f k b3 b4 (wrap64 (-b5)) b6).bind fun b7=>(some (b7.1,b7.2))
theorem shares_minus.mono:∀ a0 a1 a2 a3 k,LeO (shares_minus.f k a0 a1 a2 a3) (shares_minus.f (k + 1) a0 a1 a2 a3):=by
 intro a0 a1 a2 a3 k;unfold shares_minus.f
 repeat' first
   | (with_reducible exact shares_add.mono _ _ _ _ _)
   | (with_reducible exact LeO.refl _)
   | (with_reducible exact LeO.none _)
   | (with_reducible refine LeO.ite ?_ ?_)
   | (with_reducible refine LeO.bind ?_ (fun _=>?_))
   | exact shares_add.mono _ _ _ _ _
   | exact LeO.none _
   | refine LeO.ite ?_ ?_
   | refine LeO.bind ?_ (fun _=>?_)
theorem shares_minus.calls (k:Nat) (b3:Int) (b4:Int) (b5:Int) (b6:Int) (r1:Int) (r2:Int) (w:World) (h:shares_minus.f k b3 b4 b5 b6 = some (r1,r2)) :
  Calls Try.prog 95 #[.agg #[.int .i64 b3,.int .i64 b4],.agg #[.int .i64 b5,.int .i64 b6]] w fun e w'=>e = .returned (.agg #[.int .i64 r1,.int .i64 r2]) ∧ Below w.heap.size w w':=by
 have h8:=Try.underlying23;have HB:=A_ (Below.refl w.heap.size w);have H:((shares_add.f k b3 b4 (wrap64 (-b5)) b6).bind fun b7=>(some (b7.1,b7.2))) = some (r1,r2):=h;clear h;replace H:=Option.bind_eq_some_iff.mp H;obtain ⟨⟨d3,d6⟩,A30,H⟩:=H;replace H:(some (d3,d6)) = some (r1,r2):=H;have A3:=A_ A30;clear A30;simp only [Option.some.injEq,Prod.mk.injEq] at H;obtain ⟨rfl,rfl⟩:=H;go_enter Try.func95,Try.ntmps95;go_wp2_with (first | ((with_reducible refine gate_dst (N:=2) rfl ?_);refine box_event ?hg (N:=2) ?hd (cs:=#[.int .i64 b3,.int .i64 b4]) (t:=23) ?hr ?_;(case hd=>rfl);(case hg=>rfl);(case hr=>first | (go_simp;done) | (go_simp;rfl));intro d4 hg w4 hbox hb;have b0:=A_ hbox;have d7:=gw hg HB;have d8:=d7;replace HB:=bB HB hb;clear hb hbox hg) | ((with_reducible refine gate_dst (N:=3) rfl ?_);refine box_event ?hg (N:=3) ?hd (cs:=#[.int .i64 b5,.int .i64 b6]) (t:=23) ?hr ?_;(case hd=>rfl);(case hg=>rfl);(case hr=>first | (go_simp;done) | (go_simp;rfl));intro d5 hg w5 hbox hb;have b1:=A_ hbox;have d9:=gw hg HB;have e0:=d9;have b8:=nl hg b0;have b9:=ng hg b0;replace b0:=kB b0 hb;replace HB:=bB HB hb;clear hb hbox hg) | ((with_reducible refine gate_dst (N:=4) rfl ?_);refine box_event ?hg (N:=4) ?hd (cs:=#[.int .i64 0,.int .i64 0]) (t:=23) ?hr ?_;(case hd=>rfl);(case hg=>rfl);(case hr=>first | (go_simp;done) | (go_simp;rfl));intro d2 hg w6 hbox hb;have b2:=A_ hbox;have e1:=gw hg HB;have e2:=e1;have c0:=nl hg b0;have c1:=ng hg b0;have d0:=nl hg b1;have d1:=ng hg b1;replace b0:=kB b0 hb;replace b1:=kB b1 hb;replace HB:=bB HB hb;clear hb hbox hg;have h9:=b8.out;have i0:=b9.out;have i1:=c0.out;have i2:=c1.out;have h1:w6.cell? ⟨d4,0,none⟩ = some (.int .i64 b3):=cz b0 0;have h2:w6.cell? ⟨d4,1,none⟩ = some (.int .i64 b4):=cz b0 1;have h3:=blk_frozen b0.out 0;have h4:=blk_frozen b0.out 1;have h5:=d0.out;have h6:=d1.out;have e3:w6.cell? ⟨d5,0,none⟩ = some (.int .i64 b5):=cz b1 0;have e4:w6.cell? ⟨d5,1,none⟩ = some (.int .i64 b6):=cz b1 1;have e5:=blk_frozen b1.out 0;have e6:=blk_frozen b1.out 1) | ((with_reducible refine gate_callee (f:=88) rfl ?_);refine goesL_ (some 12) rfl rfl Try.func88 (by kernel_rfl) rfl #[.agg #[.int .i64 b3,.int .i64 b4],.agg #[.int .i64 (wrap64 (-b5)),.int .i64 b6]] rfl (by (try simp only [List.map_toArray,List.map_cons,List.map_nil]);first | done | rfl | (simp only [List.length_drop,List.length_take];rfl)) ?_;(with_reducible refine (shares_add.calls k b3 b4 (wrap64 (-b5)) b6 d3 d6 _ A3.out).mono ?_);rintro e h7 ⟨rfl,hb⟩;refine ⟨_,rfl,?_⟩;replace b0:=kB b0 hb;replace b1:=kB b1 hb;replace b2:=kB b2 hb;replace HB:=bB HB hb;(try clear hb);have e7:h7.cell? ⟨d2,0,none⟩ = some (.int .i64 0):=cz b2 0;have e8:h7.cell? ⟨d2,1,none⟩ = some (.int .i64 0):=cz b2 1;have e9:=blk_frozen b2.out 0;have h0:=blk_frozen b2.out 1));refine bodyPost_ret (results_cell_row rfl _ _ d2 23 #[.int .i64 d3,.int .i64 d6] (0,0) _ rfl (by (with_reducible repeat (first | refine blk_drewN ?_ _ | refine blk_drew ?_ | refine blk_alloc ?_ _));refine blk_put (cs:=#[.int .i64 d3,.int .i64 0]) ?_ 1 _ rfl;(with_reducible repeat (first | refine blk_drewN ?_ _ | refine blk_drew ?_ | refine blk_alloc ?_ _));refine blk_put (cs:=#[.int .i64 0,.int .i64 0]) ?_ 0 _ rfl;(with_reducible repeat (first | refine blk_drewN ?_ _ | refine blk_drew ?_ | refine blk_alloc ?_ _));exact b2.out) Try.underlying23 rfl (by kernel_rfl)) rfl ?_;exact ⟨by first | rfl | (simp [errW_none,errW_some] <;> rfl) | (simp [*,errW_none,errW_some] <;> rfl),by repeat (first | (with_reducible first | exact HB.out | apply below_alloc | apply pw_below_drewN | apply below_drew1 | refine below_set ?_ d8.out | refine below_set ?_ e0.out | refine below_set ?_ e2.out) | exact HB.out)⟩
end Go.Proofs.Ytjohcjfmlhihbaa.G
namespace Go.Proofs.Ytjohcjfmlhihbaa.G
open Go.RowKit Go.Proofs.YtjohcjfmlhihbaaW.PrintWords Go.Proofs.YtjohcjfmlhihbaaW.PrintLast Go.Proofs.YtjohcjfmlhihbaaW.PrintMore
set_option maxHeartbeats 8000000
set_option maxRecDepth 100000
attribute [local go_sem] cond_true cond_false fld23_0 fld23_1 fld45_0 fld45_1 fld109_0 fld109_1 fld94_0 fld94_1 max2_int min2_int max_two min_two max_three min_three max_four min_four
def shares_garment_1.f (k:Nat) (a0:Int) (c1:Int) (d0:Int):Option (Int × Int):=(shares_whole.f a0).bind fun d9=>((shares_minus.f k c1 d0 d9.1 d9.2).bind fun d7=>(if d7.1 < 0 then ((shares_whole.f 0).bind fun e0=>(some (e0.1,e0.2))) else (some (d7.1,d7.2))))
theorem shares_garment_1.mono:∀ a0 a1 a2 k,LeO (shares_garment_1.f k a0 a1 a2) (shares_garment_1.f (k + 1) a0 a1 a2):=by
 intro a0 a1 a2 k;unfold shares_garment_1.f
 repeat' first
   | (with_reducible first | exact shares_minus.mono _ _ _ _ _ | exact LeO.refl _ | exact LeO.none _ | refine LeO.ite ?_ ?_ | refine LeO.bind ?_ (fun _=>?_))
   | exact LeO.none _ | refine LeO.ite ?_ ?_ | refine LeO.bind ?_ (fun _=>?_)
theorem shares_garment_1.calls (k:Nat) (a0:Int) (c1:Int) (d0:Int) (r1:Int) (r2:Int) (w:World) (b8:Nat) (n1:w.heap[b8]? = some (.cells #[.int .i64 c1,.int .i64 d0] 23 (0,0))) (h:shares_garment_1.f k a0 c1 d0 = some (r1,r2)) :
  Calls Try.prog 94 #[.int .i64 a0,.pointer (some ⟨b8,0,none⟩)] w fun e w'=>e = .returned (.agg #[.int .i64 r1,.int .i64 r2]) ∧ Below w.heap.size w w':=by
 have p3:=Try.underlying23;have b0:=A_ n1;clear n1;have HB:=A_ (Below.refl w.heap.size w);have H:((shares_whole.f a0).bind fun d9=>((shares_minus.f k c1 d0 d9.1 d9.2).bind fun d7=>(if d7.1 < 0 then ((shares_whole.f 0).bind fun e0=>(some (e0.1,e0.2))) else (some (d7.1,d7.2))))) = some (r1,r2):=h;clear h;replace H:=Option.bind_eq_some_iff.mp H;obtain ⟨⟨d2,d3⟩,A30,H⟩:=H;dsimp only at H;have A3:=A_ A30;clear A30;replace H:=Option.bind_eq_some_iff.mp H;obtain ⟨⟨d4,d8⟩,A40,H⟩:=H;dsimp only at H;have A4:=A_ A40;clear A40;by_cases c5:d4 < 0
 case neg =>
  rw [if_neg c5] at H;have n0:=decide_eq_false c5;clear c5;simp only [Option.some.injEq,Prod.mk.injEq] at H;obtain ⟨rfl,rfl⟩:=H;go_enter Try.func94,Try.ntmps94;try go_wp2_with (first | ((with_reducible refine gate_dst (N:=3) rfl ?_);refine bx 3 #[.int .i64 0,.int .i64 0] 23 ?_;intro b9 hg p4 hbox hb;have b1:=A_ hbox;have e2:=gw hg HB;have e5:=e2;have d5:=nl hg b0;have d6:=ng hg b0;replace b0:=kB b0 hb;replace HB:=bB HB hb;clear hb hbox hg))
  replace b0:=kD b0;replace b1:=kD b1;replace HB:=bD HB;refine start_ (n:=6) (S:=fun w'=>w'.cell? ⟨b8,0,none⟩ = some (.int .i64 c1) ∧ w'.cell? ⟨b8,1,none⟩ = some (.int .i64 d0)) (ds:=[]) (ba 6 0) (by kernel_rfl) rfl rfl ⟨cz b0 0,cz b0 1⟩ (fun hHeld=>?_);generalize p4.drew = q1 at b0 b1 HB hHeld ⊢;refine pr 1 6 2 ?_;refine tr 0 5 3 hHeld ?_;refine join_ (σ:=Nat) 1 (ba 6 31) (fun s_=>[(7,.agg #[.int .i64 d2,.int .i64 d3]),(8,.agg #[.int .i64 d4,.int .i64 d8]),(4,.pointer (some ⟨s_,0,none⟩))]) (fun s_ w'=>(w'.cell? ⟨b8,0,none⟩ = some (.int .i64 c1) ∧ w'.cell? ⟨b8,1,none⟩ = some (.int .i64 d0)) ∧ (w'.heap[b8]? = some (.cells #[.int .i64 c1,.int .i64 d0] 23 (0,0))) ∧ (w'.heap[b9]? = some (.cells #[.int .i64 0,.int .i64 0] 23 (0,0))) ∧ (w'.heap[s_]? = some (.cells #[.int .i64 0,.int .i64 0] 23 (0,0))) ∧ (w.heap.size ≤ s_) ∧ (w.heap.size ≤ s_) ∧ (b8 ≠ s_) ∧ (s_ ≠ b8) ∧ (b9 ≠ s_) ∧ (s_ ≠ b9) ∧ (Below w.heap.size w w')) ?_ ?_;rotate_left
  ·intro hCont;refine two_ (i:=2) (j:=4) (Ni:=some 7) (Nj:=some 4) (ba 6 7) (ba 6 19) rfl rfl rfl rfl (by kernel_rfl) (by decide) (by decide) (fun K hK=>?_) (fun K hK=>?_)
   ·skip;refine gq Try.func64 #[.int .i64 a0] ?_;with_reducible refine (shares_whole.calls a0 d2 d3 _ A3.out).mono ?_;rintro e p5 ⟨rfl,hb⟩;refine ⟨_,rfl,?_⟩;replace b0:=kB b0 hb;replace b1:=kB b1 hb;replace HB:=bB HB hb;(try clear hb)
    refine hz hK (fun hHeld=>?_);clear hK K;refine nq 7 ?_;refine two_ (i:=3) (j:=4) (Ni:=some 8) (Nj:=some 4) (ba 6 15) (ba 6 23) rfl rfl rfl rfl (by kernel_rfl) (by decide) (by decide) (fun K hK=>?_) (fun K hK=>?_)
    ·skip;refine gq Try.func95 #[.agg #[.int .i64 c1,.int .i64 d0],.agg #[.int .i64 d2,.int .i64 d3]] ?_;with_reducible refine (shares_minus.calls k c1 d0 d2 d3 d4 d8 _ A4.out).mono ?_;rintro e n2 ⟨rfl,hb⟩;refine ⟨_,rfl,?_⟩;replace b0:=kB b0 hb;replace b1:=kB b1 hb;replace HB:=bB HB hb;(try clear hb)
     refine hz hK (fun hHeld=>?_);clear hK K;refine nq 8 ?_;refine os 4 4 31 (fun K hK=>?_);refine box_step ?hg (N:=4) ?hd (cs:=#[.int .i64 0,.int .i64 0]) (t:=23) ?hr ?_;(case hd=>rfl);(case hg=>rfl);(case hr=>first | (go_simp;done) | (go_simp;rfl))
     intro b6 hg n3 hbox hb;have b7:=A_ hbox;have c0:=gw hg HB;have d1:=c0;have b2:=nl hg b0;have b4:=ng hg b0;have b3:=nl hg b1;have b5:=ng hg b1;replace b0:=kB b0 hb;replace b1:=kB b1 hb;replace HB:=bB HB hb;clear hb hbox hg;refine hz hK (fun hHeld=>?_);clear hK K;refine nq 4 ?_;exact norm_ (by simp only [putAll,Act.put,List.setIfInBounds_toArray,List.set_cons_zero,List.set_cons_succ]) (hCont b6 _ ⟨hHeld,b0.out,b1.out,b7.out,c0.out,d1.out,b2.out,b4.out,b3.out,b5.out,HB.out⟩)
    skip;refine box_step ?hg (N:=4) ?hd (cs:=#[.int .i64 0,.int .i64 0]) (t:=23) ?hr ?_;(case hd=>rfl);(case hg=>rfl);(case hr=>first | (go_simp;done) | (go_simp;rfl))
    intro b6 hg n2 hbox hb;have b7:=A_ hbox;have c0:=gw hg HB;have d1:=c0;have b2:=nl hg b0;have b4:=ng hg b0;have b3:=nl hg b1;have b5:=ng hg b1;replace b0:=kB b0 hb;replace b1:=kB b1 hb;replace HB:=bB HB hb;clear hb hbox hg;refine hz hK (fun hHeld=>?_);clear hK K;refine nq 4 ?_;refine os 3 8 31 (fun K hK=>?_);refine gq Try.func95 #[.agg #[.int .i64 c1,.int .i64 d0],.agg #[.int .i64 d2,.int .i64 d3]] ?_;with_reducible refine (shares_minus.calls k c1 d0 d2 d3 d4 d8 _ A4.out).mono ?_;rintro e n3 ⟨rfl,hb⟩;refine ⟨_,rfl,?_⟩;replace b0:=kB b0 hb;replace b1:=kB b1 hb;replace b7:=kB b7 hb;replace HB:=bB HB hb;(try clear hb)
    refine hz hK (fun hHeld=>?_);clear hK K;refine nq 8 ?_;exact norm_ (by simp only [putAll,Act.put,List.setIfInBounds_toArray,List.set_cons_zero,List.set_cons_succ]) (hCont b6 _ ⟨hHeld,b0.out,b1.out,b7.out,c0.out,d1.out,b2.out,b4.out,b3.out,b5.out,HB.out⟩)
   skip;refine box_step ?hg (N:=4) ?hd (cs:=#[.int .i64 0,.int .i64 0]) (t:=23) ?hr ?_;(case hd=>rfl);(case hg=>rfl);(case hr=>first | (go_simp;done) | (go_simp;rfl))
   intro b6 hg p5 hbox hb;have b7:=A_ hbox;have c0:=gw hg HB;have d1:=c0;have b2:=nl hg b0;have b4:=ng hg b0;have b3:=nl hg b1;have b5:=ng hg b1;replace b0:=kB b0 hb;replace b1:=kB b1 hb;replace HB:=bB HB hb;clear hb hbox hg;refine hz hK (fun hHeld=>?_);clear hK K;refine nq 4 ?_;refine os 2 7 23 (fun K hK=>?_);refine gq Try.func64 #[.int .i64 a0] ?_;with_reducible refine (shares_whole.calls a0 d2 d3 _ A3.out).mono ?_;rintro e n2 ⟨rfl,hb⟩;refine ⟨_,rfl,?_⟩;replace b0:=kB b0 hb;replace b1:=kB b1 hb;replace b7:=kB b7 hb;replace HB:=bB HB hb;(try clear hb)
   refine hz hK (fun hHeld=>?_);clear hK K;refine nq 7 ?_;refine os 3 8 31 (fun K hK=>?_);refine gq Try.func95 #[.agg #[.int .i64 c1,.int .i64 d0],.agg #[.int .i64 d2,.int .i64 d3]] ?_;with_reducible refine (shares_minus.calls k c1 d0 d2 d3 d4 d8 _ A4.out).mono ?_;rintro e n3 ⟨rfl,hb⟩;refine ⟨_,rfl,?_⟩;replace b0:=kB b0 hb;replace b1:=kB b1 hb;replace b7:=kB b7 hb;replace HB:=bB HB hb;(try clear hb)
   refine hz hK (fun hHeld=>?_);clear hK K;refine nq 8 ?_;exact norm_ (by simp only [putAll,Act.put,List.setIfInBounds_toArray,List.set_cons_zero,List.set_cons_succ]) (hCont b6 _ ⟨hHeld,b0.out,b1.out,b7.out,c0.out,d1.out,b2.out,b4.out,b3.out,b5.out,HB.out⟩)
  rintro b6 e1 ⟨hS_,e6,e7,e8,e9,h0,h1,h2,h3,h4,h5⟩;have b7:Aside0 (e1.heap[b6]? = some (.cells #[.int .i64 0,.int .i64 0] 23 (0,0))):=⟨e8⟩
  have c0:Aside0 (w.heap.size ≤ b6):=⟨e9⟩
  have d1:Aside0 (w.heap.size ≤ b6):=⟨h0⟩
  have b2:Aside0 (b8 ≠ b6):=⟨h1⟩
  have b4:Aside0 (b6 ≠ b8):=⟨h2⟩
  have b3:Aside0 (b9 ≠ b6):=⟨h3⟩
  have b5:Aside0 (b6 ≠ b9):=⟨h4⟩
  replace b0:Aside0 (e1.heap[b8]? = some (.cells #[.int .i64 c1,.int .i64 d0] 23 (0,0))):=⟨e6⟩
  replace b1:Aside0 (e1.heap[b9]? = some (.cells #[.int .i64 0,.int .i64 0] 23 (0,0))):=⟨e7⟩
  replace HB:Aside0 (Below w.heap.size w e1):=⟨h5⟩
  clear e6 e7 e8 e9 h0 h1 h2 h3 h4 h5;have hHeld:e1.cell? ⟨b8,0,none⟩ = some (.int .i64 c1) ∧ e1.cell? ⟨b8,1,none⟩ = some (.int .i64 d0):=hS_;refine norm_ (a':=?_) ?_ ?_;rotate_left
  ·simp only [putAll,Act.put,List.setIfInBounds_toArray,List.set_cons_zero,List.set_cons_succ];rfl
  refine one_ (i:=5) (N:=none) (ba 6 63) rfl rfl (by kernel_rfl) (by decide) (fun K hK=>?_);have p6:e1.cell? ⟨b6,0,none⟩ = some (.int .i64 0):=cz b7 0;have n4:=blk_frozen b7.out 0;have h7:=b2.out;have h8:=b3.out;have h9:=b4.out;have i0:=b5.out;have p7:e1.cell? ⟨b6,1,none⟩ = some (.int .i64 0):=cz b7 1;have n5:=blk_frozen b7.out 1;have i1:=b2.out;have i2:=b3.out;have i3:=b4.out;have i4:=b5.out;refine skip_ (w1:=?_) (by rfl) rfl ?_ ?_;rotate_left
  ·go_simp;rfl
  refine hK.out _ _ ⟨((cell_far (p:=⟨b6,_,none⟩) b2.out _).trans (((cell_far (p:=⟨b6,_,none⟩) b2.out _).trans (hHeld.1)))),((cell_far (p:=⟨b6,_,none⟩) b2.out _).trans (((cell_far (p:=⟨b6,_,none⟩) b2.out _).trans (hHeld.2))))⟩ (fun hHeld=>?_);clear hK K;refine done_ (by kernel_rfl) ?_;have n6:=b4.out;have n7:=b2.out;have n8:=b5.out;have n9:=b3.out;have i5:e1.cell? ⟨b6,0,none⟩ = some (.int .i64 0):=cz b7 0;have i6:e1.cell? ⟨b6,1,none⟩ = some (.int .i64 0):=cz b7 1;have i7:=blk_frozen b7.out 0;have i8:=blk_frozen b7.out 1;have o0:=d6.out;have o1:=d5.out;have i9:e1.cell? ⟨b9,0,none⟩ = some (.int .i64 0):=cz b1 0;have j5:e1.cell? ⟨b9,1,none⟩ = some (.int .i64 0):=cz b1 1;have j7:=blk_frozen b1.out 0;have j8:=blk_frozen b1.out 1;try go_wp2
  refine bodyPost_ret (results_cell_row rfl _ _ b9 23 #[.int .i64 d4,.int .i64 d8] (0,0) _ rfl (by refine blk_put (cs:=#[.int .i64 d4,.int .i64 0]) ?_ 1 _ rfl;refine blk_put (cs:=#[.int .i64 0,.int .i64 0]) ?_ 0 _ rfl;refine blk_far ?_ b3.out _;refine blk_far ?_ b3.out _;exact b1.out) Try.underlying23 rfl (by kernel_rfl)) rfl ?_;exact ⟨rfl,bl HB⟩
 rw [if_pos c5] at H;have n0:=decide_eq_true c5;clear c5;replace H:=Option.bind_eq_some_iff.mp H;obtain ⟨⟨e4,h6⟩,A60,H⟩:=H;dsimp only at H;have A6:=A_ A60;clear A60;simp only [Option.some.injEq,Prod.mk.injEq] at H;obtain ⟨rfl,rfl⟩:=H;go_enter Try.func94,Try.ntmps94;try go_wp2_with (first | ((with_reducible refine gate_dst (N:=3) rfl ?_);refine bx 3 #[.int .i64 0,.int .i64 0] 23 ?_;intro b9 hg w8 hbox hb;have b1:=A_ hbox;have e2:=gw hg HB;have e5:=e2;have d5:=nl hg b0;have d6:=ng hg b0;replace b0:=kB b0 hb;replace HB:=bB HB hb;clear hb hbox hg))
 replace b0:=kD b0;replace b1:=kD b1;replace HB:=bD HB;refine start_ (n:=6) (S:=fun w'=>w'.cell? ⟨b8,0,none⟩ = some (.int .i64 c1) ∧ w'.cell? ⟨b8,1,none⟩ = some (.int .i64 d0)) (ds:=[]) (ba 6 0) (by kernel_rfl) rfl rfl ⟨cz b0 0,cz b0 1⟩ (fun hHeld=>?_);generalize w8.drew = w9 at b0 b1 HB hHeld ⊢;refine pr 1 6 2 ?_;refine tr 0 5 3 hHeld ?_;refine join_ (σ:=Nat) 1 (ba 6 31) (fun s_=>[(7,.agg #[.int .i64 d2,.int .i64 d3]),(8,.agg #[.int .i64 d4,.int .i64 d8]),(4,.pointer (some ⟨s_,0,none⟩))]) (fun s_ w'=>(w'.cell? ⟨b8,0,none⟩ = some (.int .i64 c1) ∧ w'.cell? ⟨b8,1,none⟩ = some (.int .i64 d0)) ∧ (w'.heap[b8]? = some (.cells #[.int .i64 c1,.int .i64 d0] 23 (0,0))) ∧ (w'.heap[b9]? = some (.cells #[.int .i64 0,.int .i64 0] 23 (0,0))) ∧ (w'.heap[s_]? = some (.cells #[.int .i64 0,.int .i64 0] 23 (0,0))) ∧ (w.heap.size ≤ s_) ∧ (w.heap.size ≤ s_) ∧ (b8 ≠ s_) ∧ (s_ ≠ b8) ∧ (b9 ≠ s_) ∧ (s_ ≠ b9) ∧ (Below w.heap.size w w')) ?_ ?_;rotate_left
 ·intro hCont;refine two_ (i:=2) (j:=4) (Ni:=some 7) (Nj:=some 4) (ba 6 7) (ba 6 19) rfl rfl rfl rfl (by kernel_rfl) (by decide) (by decide) (fun K hK=>?_) (fun K hK=>?_)
  ·skip;refine gq Try.func64 #[.int .i64 a0] ?_;with_reducible refine (shares_whole.calls a0 d2 d3 _ A3.out).mono ?_;rintro e p8 ⟨rfl,hb⟩;refine ⟨_,rfl,?_⟩;replace b0:=kB b0 hb;replace b1:=kB b1 hb;replace HB:=bB HB hb;(try clear hb)
   refine hz hK (fun hHeld=>?_);clear hK K;refine nq 7 ?_;refine two_ (i:=3) (j:=4) (Ni:=some 8) (Nj:=some 4) (ba 6 15) (ba 6 23) rfl rfl rfl rfl (by kernel_rfl) (by decide) (by decide) (fun K hK=>?_) (fun K hK=>?_)
   ·skip;refine gq Try.func95 #[.agg #[.int .i64 c1,.int .i64 d0],.agg #[.int .i64 d2,.int .i64 d3]] ?_;with_reducible refine (shares_minus.calls k c1 d0 d2 d3 d4 d8 _ A4.out).mono ?_;rintro e o2 ⟨rfl,hb⟩;refine ⟨_,rfl,?_⟩;replace b0:=kB b0 hb;replace b1:=kB b1 hb;replace HB:=bB HB hb;(try clear hb)
    refine hz hK (fun hHeld=>?_);clear hK K;refine nq 8 ?_;refine os 4 4 31 (fun K hK=>?_);refine box_step ?hg (N:=4) ?hd (cs:=#[.int .i64 0,.int .i64 0]) (t:=23) ?hr ?_;(case hd=>rfl);(case hg=>rfl);(case hr=>first | (go_simp;done) | (go_simp;rfl))
    intro b6 hg o3 hbox hb;have b7:=A_ hbox;have c0:=gw hg HB;have d1:=c0;have b2:=nl hg b0;have b4:=ng hg b0;have b3:=nl hg b1;have b5:=ng hg b1;replace b0:=kB b0 hb;replace b1:=kB b1 hb;replace HB:=bB HB hb;clear hb hbox hg;refine hz hK (fun hHeld=>?_);clear hK K;refine nq 4 ?_;exact norm_ (by simp only [putAll,Act.put,List.setIfInBounds_toArray,List.set_cons_zero,List.set_cons_succ]) (hCont b6 _ ⟨hHeld,b0.out,b1.out,b7.out,c0.out,d1.out,b2.out,b4.out,b3.out,b5.out,HB.out⟩)
   skip;refine box_step ?hg (N:=4) ?hd (cs:=#[.int .i64 0,.int .i64 0]) (t:=23) ?hr ?_;(case hd=>rfl);(case hg=>rfl);(case hr=>first | (go_simp;done) | (go_simp;rfl))
   intro b6 hg o2 hbox hb;have b7:=A_ hbox;have c0:=gw hg HB;have d1:=c0;have b2:=nl hg b0;have b4:=ng hg b0;have b3:=nl hg b1;have b5:=ng hg b1;replace b0:=kB b0 hb;replace b1:=kB b1 hb;replace HB:=bB HB hb;clear hb hbox hg;refine hz hK (fun hHeld=>?_);clear hK K;refine nq 4 ?_;refine os 3 8 31 (fun K hK=>?_);refine gq Try.func95 #[.agg #[.int .i64 c1,.int .i64 d0],.agg #[.int .i64 d2,.int .i64 d3]] ?_;with_reducible refine (shares_minus.calls k c1 d0 d2 d3 d4 d8 _ A4.out).mono ?_;rintro e o3 ⟨rfl,hb⟩;refine ⟨_,rfl,?_⟩;replace b0:=kB b0 hb;replace b1:=kB b1 hb;replace b7:=kB b7 hb;replace HB:=bB HB hb;(try clear hb)
   refine hz hK (fun hHeld=>?_);clear hK K;refine nq 8 ?_;exact norm_ (by simp only [putAll,Act.put,List.setIfInBounds_toArray,List.set_cons_zero,List.set_cons_succ]) (hCont b6 _ ⟨hHeld,b0.out,b1.out,b7.out,c0.out,d1.out,b2.out,b4.out,b3.out,b5.out,HB.out⟩)
  skip;refine box_step ?hg (N:=4) ?hd (cs:=#[.int .i64 0,.int .i64 0]) (t:=23) ?hr ?_;(case hd=>rfl);(case hg=>rfl);(case hr=>first | (go_simp;done) | (go_simp;rfl))
  intro b6 hg p8 hbox hb;have b7:=A_ hbox;have c0:=gw hg HB;have d1:=c0;have b2:=nl hg b0;have b4:=ng hg b0;have b3:=nl hg b1;have b5:=ng hg b1;replace b0:=kB b0 hb;replace b1:=kB b1 hb;replace HB:=bB HB hb;clear hb hbox hg;refine hz hK (fun hHeld=>?_);clear hK K;refine nq 4 ?_;refine os 2 7 23 (fun K hK=>?_);refine gq Try.func64 #[.int .i64 a0] ?_;with_reducible refine (shares_whole.calls a0 d2 d3 _ A3.out).mono ?_;rintro e o2 ⟨rfl,hb⟩;refine ⟨_,rfl,?_⟩;replace b0:=kB b0 hb;replace b1:=kB b1 hb;replace b7:=kB b7 hb;replace HB:=bB HB hb;(try clear hb)
  refine hz hK (fun hHeld=>?_);clear hK K;refine nq 7 ?_;refine os 3 8 31 (fun K hK=>?_);refine gq Try.func95 #[.agg #[.int .i64 c1,.int .i64 d0],.agg #[.int .i64 d2,.int .i64 d3]] ?_;with_reducible refine (shares_minus.calls k c1 d0 d2 d3 d4 d8 _ A4.out).mono ?_;rintro e o3 ⟨rfl,hb⟩;refine ⟨_,rfl,?_⟩;replace b0:=kB b0 hb;replace b1:=kB b1 hb;replace b7:=kB b7 hb;replace HB:=bB HB hb;(try clear hb)
  refine hz hK (fun hHeld=>?_);clear hK K;refine nq 8 ?_;exact norm_ (by simp only [putAll,Act.put,List.setIfInBounds_toArray,List.set_cons_zero,List.set_cons_succ]) (hCont b6 _ ⟨hHeld,b0.out,b1.out,b7.out,c0.out,d1.out,b2.out,b4.out,b3.out,b5.out,HB.out⟩)
 rintro b6 e3 ⟨hS_,e6,e7,e8,e9,h0,h1,h2,h3,h4,h5⟩;have b7:Aside0 (e3.heap[b6]? = some (.cells #[.int .i64 0,.int .i64 0] 23 (0,0))):=⟨e8⟩
 have c0:Aside0 (w.heap.size ≤ b6):=⟨e9⟩
 have d1:Aside0 (w.heap.size ≤ b6):=⟨h0⟩
 have b2:Aside0 (b8 ≠ b6):=⟨h1⟩
 have b4:Aside0 (b6 ≠ b8):=⟨h2⟩
 have b3:Aside0 (b9 ≠ b6):=⟨h3⟩
 have b5:Aside0 (b6 ≠ b9):=⟨h4⟩
 replace b0:Aside0 (e3.heap[b8]? = some (.cells #[.int .i64 c1,.int .i64 d0] 23 (0,0))):=⟨e6⟩
 replace b1:Aside0 (e3.heap[b9]? = some (.cells #[.int .i64 0,.int .i64 0] 23 (0,0))):=⟨e7⟩
 replace HB:Aside0 (Below w.heap.size w e3):=⟨h5⟩
 clear e6 e7 e8 e9 h0 h1 h2 h3 h4 h5;have hHeld:e3.cell? ⟨b8,0,none⟩ = some (.int .i64 c1) ∧ e3.cell? ⟨b8,1,none⟩ = some (.int .i64 d0):=hS_;refine norm_ (a':=?_) ?_ ?_;rotate_left
 ·simp only [putAll,Act.put,List.setIfInBounds_toArray,List.set_cons_zero,List.set_cons_succ];rfl
 refine one_ (i:=5) (N:=none) (ba 6 63) rfl rfl (by kernel_rfl) (by decide) (fun K hK=>?_);have p9:e3.cell? ⟨b6,0,none⟩ = some (.int .i64 0):=cz b7 0;have o4:=blk_frozen b7.out 0;have j9:=b2.out;have l5:=b3.out;have l6:=b4.out;have l7:=b5.out;have q0:e3.cell? ⟨b6,1,none⟩ = some (.int .i64 0):=cz b7 1;have o5:=blk_frozen b7.out 1;have l8:=b2.out;have l9:=b3.out;have m0:=b4.out;have m1:=b5.out;refine skip_ (w1:=?_) (by rfl) rfl ?_ ?_;rotate_left
 ·go_simp;rfl
 refine hK.out _ _ ⟨((cell_far (p:=⟨b6,_,none⟩) b2.out _).trans (((cell_far (p:=⟨b6,_,none⟩) b2.out _).trans (hHeld.1)))),((cell_far (p:=⟨b6,_,none⟩) b2.out _).trans (((cell_far (p:=⟨b6,_,none⟩) b2.out _).trans (hHeld.2))))⟩ (fun hHeld=>?_);clear hK K;refine done_ (by kernel_rfl) ?_;have o6:=b4.out;have o7:=b2.out;have o8:=b5.out;have o9:=b3.out;have m2:e3.cell? ⟨b6,0,none⟩ = some (.int .i64 0):=cz b7 0;have m3:e3.cell? ⟨b6,1,none⟩ = some (.int .i64 0):=cz b7 1;have m4:=blk_frozen b7.out 0;have m5:=blk_frozen b7.out 1;try go_wp2_with (first | ((with_reducible refine gate_callee (f:=64) rfl ?_);refine gL (some 12) Try.func64 #[.int .i64 0] ?_;(with_reducible refine (shares_whole.calls 0 e4 h6 _ A6.out).mono ?_);rintro e p0 ⟨rfl,hb⟩;refine ⟨_,rfl,?_⟩;replace b0:=kB b0 hb;replace b1:=kB b1 hb;replace b7:=A_ (blk_below (g:=b6) (o:=.cells #[.int .i64 d4,.int .i64 d8] 23 (0,0)) (by refine blk_put (cs:=#[.int .i64 d4,.int .i64 0]) ?_ 1 _ rfl;refine blk_put (cs:=#[.int .i64 0,.int .i64 0]) ?_ 0 _ rfl;exact b7.out) hb);replace HB:=bB HB hb;(try clear hb);have p1:=d6.out;have p2:=d5.out;have m6:p0.cell? ⟨b9,0,none⟩ = some (.int .i64 0):=cz b1 0;have m7:p0.cell? ⟨b9,1,none⟩ = some (.int .i64 0):=cz b1 1;have m8:=blk_frozen b1.out 0;have m9:=blk_frozen b1.out 1))
 refine bodyPost_ret (results_cell_row rfl _ _ b9 23 #[.int .i64 e4,.int .i64 h6] (0,0) _ rfl (by refine blk_put (cs:=#[.int .i64 e4,.int .i64 0]) ?_ 1 _ rfl;refine blk_put (cs:=#[.int .i64 0,.int .i64 0]) ?_ 0 _ rfl;exact b1.out) Try.underlying23 rfl (by kernel_rfl)) rfl ?_;exact ⟨rfl,bl HB⟩
end Go.Proofs.Ytjohcjfmlhihbaa.G
namespace Go.Proofs.Ytjohcjfmlhihbaa.G
open Go.RowKit Go.Proofs.YtjohcjfmlhihbaaW.PrintWords Go.Proofs.YtjohcjfmlhihbaaW.PrintLast Go.Proofs.YtjohcjfmlhihbaaW.PrintMore
set_option maxHeartbeats 8000000
set_option maxRecDepth 100000
attribute [local go_sem] cond_true cond_false fld23_0 fld23_1 fld45_0 fld45_1 fld109_0 fld109_1 fld94_0 fld94_1 max2_int min2_int max_two min_two max_three min_three max_four min_four   -- for this text's walks alone
def shares_over.f (k:Nat) (b2:Int) (b3:Int) (a1:Int):Option (Int × Int):=(shares_frac.f k b2 (wrap64 (b3 * a1))).bind fun b6=>(some (b6.1,b6.2))
theorem shares_over.mono:∀ a0 a1 a2 k,LeO (shares_over.f k a0 a1 a2) (shares_over.f (k + 1) a0 a1 a2):=by
 intro a0 a1 a2 k;unfold shares_over.f
 repeat' first
   | (with_reducible exact shares_frac.mono _ _ _)
   | (with_reducible exact LeO.refl _)
   | (with_reducible exact LeO.none _)
   | (with_reducible refine LeO.ite ?_ ?_)
   | (with_reducible refine LeO.bind ?_ (fun _=>?_))
   | exact shares_frac.mono _ _ _
   | exact LeO.none _
   | refine LeO.ite ?_ ?_
   | refine LeO.bind ?_ (fun _=>?_)
theorem shares_over.calls (k:Nat) (b2:Int) (b3:Int) (a1:Int) (r1:Int) (r2:Int) (w:World) (h:shares_over.f k b2 b3 a1 = some (r1,r2)) :
  Calls Try.prog 96 #[.agg #[.int .i64 b2,.int .i64 b3],.int .i64 a1] w fun e w'=>e = .returned (.agg #[.int .i64 r1,.int .i64 r2]) ∧ Below w.heap.size w w':=by
 have e8:=Try.underlying23;have HB:=Aside0.mk (Below.refl w.heap.size w);have H:((shares_frac.f k b2 (wrap64 (b3 * a1))).bind fun b6=>(some (b6.1,b6.2))) = some (r1,r2):=h;clear h;replace H:=Option.bind_eq_some_iff.mp H;obtain ⟨⟨c0,d3⟩,A30,H⟩:=H;replace H:(some (c0,d3)) = some (r1,r2):=H;have A3:=Aside0.mk A30;clear A30;simp only [Option.some.injEq,Prod.mk.injEq] at H;obtain ⟨rfl,rfl⟩:=H;go_enter Try.func96,Try.ntmps96;go_wp2_with (first | ((with_reducible refine gate_dst (N:=2) rfl ?_);refine box_event ?hg (N:=2) ?hd (cs:=#[.int .i64 b2,.int .i64 b3]) (t:=23) ?hr ?_;(case hd=>rfl);(case hg=>rfl);(case hr=>first | (go_simp;done) | (go_simp;rfl));intro b1 hg w4 hbox hb;have c1:=Aside0.mk (below_step (by repeat (first | (with_reducible first | exact HB.out | apply below_alloc | apply pw_below_drewN | apply below_drew1) | exact HB.out)) hb);have d0:=Aside0.mk (hbox);have d1:=Aside0.mk ((by rw [hg];exact (below_size (by repeat (first | (with_reducible first | exact HB.out | apply below_alloc | apply pw_below_drewN | apply below_drew1) | exact HB.out))):w.heap.size ≤ b1));have d4:=Aside0.mk ((by rw [hg];exact (below_size (by repeat (first | (with_reducible first | exact HB.out | apply below_alloc | apply pw_below_drewN | apply below_drew1) | exact HB.out))):w.heap.size ≤ b1));clear HB;have HB:=c1;have b0:=d0;have e3:=d1;have b7:=d4;clear c1 d0 d1 d4;clear hb hbox hg) | ((with_reducible refine gate_dst (N:=4) rfl ?_);refine box_event ?hg (N:=4) ?hd (cs:=#[.int .i64 0,.int .i64 0]) (t:=23) ?hr ?_;(case hd=>rfl);(case hg=>rfl);(case hr=>first | (go_simp;done) | (go_simp;rfl));intro b4 hg w5 hbox hb;have c1:=Aside0.mk (blk_below (g:=b1) (o:=.cells #[.int .i64 b2,.int .i64 b3] 23 (0,0)) (by (with_reducible repeat (first | refine blk_drewN ?_ _ | refine blk_drew ?_ | refine blk_alloc ?_ _));exact b0.out) hb);have d0:=Aside0.mk (below_step (by repeat (first | (with_reducible first | exact HB.out | apply below_alloc | apply pw_below_drewN | apply below_drew1 | refine below_set ?_ b7.out) | exact HB.out)) hb);have d1:=Aside0.mk (hbox);have d4:=Aside0.mk ((by rw [hg];exact (below_size (by repeat (first | (with_reducible first | exact HB.out | apply below_alloc | apply pw_below_drewN | apply below_drew1 | refine below_set ?_ b7.out) | exact HB.out))):w.heap.size ≤ b4));have e4:=Aside0.mk ((by rw [hg];exact (below_size (by repeat (first | (with_reducible first | exact HB.out | apply below_alloc | apply pw_below_drewN | apply below_drew1 | refine below_set ?_ b7.out) | exact HB.out))):w.heap.size ≤ b4));have e5:=Aside0.mk ((by rw [hg];exact Nat.ne_of_lt (blk_lt (g:=b1) (o:=.cells #[.int .i64 b2,.int .i64 b3] 23 (0,0)) (by (with_reducible repeat (first | refine blk_drewN ?_ _ | refine blk_drew ?_ | refine blk_alloc ?_ _));exact b0.out)):b1 ≠ b4));have e6:=Aside0.mk ((by rw [hg];exact Nat.ne_of_gt (blk_lt (g:=b1) (o:=.cells #[.int .i64 b2,.int .i64 b3] 23 (0,0)) (by (with_reducible repeat (first | refine blk_drewN ?_ _ | refine blk_drew ?_ | refine blk_alloc ?_ _));exact b0.out)):b4 ≠ b1));clear b0;clear HB;have b0:=c1;have HB:=d0;have b5:=d1;have e7:=d4;have d2:=e4;have b8:=e5;have b9:=e6;clear c1 d0 d1 d4 e4 e5 e6;clear hb hbox hg;have e9:=b8.out;have h0:=b9.out;have d5:w5.cell? ⟨b1,0,none⟩ = some (.int .i64 b2):=(blk_cell b0.out 0).trans rfl;have d6:w5.cell? ⟨b1,1,none⟩ = some (.int .i64 b3):=(blk_cell b0.out 1).trans rfl;have d7:=blk_frozen b0.out 0;have d8:=blk_frozen b0.out 1) | ((with_reducible refine gate_callee (f:=117) rfl ?_);refine goesL_ (some 11) rfl rfl Try.func117 (by kernel_rfl) rfl #[.int .i64 b2,.int .i64 (wrap64 (b3 * a1))] rfl (by (try simp only [List.map_toArray,List.map_cons,List.map_nil]);first | done | rfl | (simp only [List.length_drop,List.length_take];rfl)) ?_;(with_reducible refine (shares_frac.calls k b2 (wrap64 (b3 * a1)) c0 d3 _ A3.out).mono ?_);rintro e w8 ⟨rfl,hb⟩;refine ⟨_,rfl,?_⟩;have c1:=Aside0.mk (blk_below (g:=b1) (o:=.cells #[.int .i64 b2,.int .i64 b3] 23 (0,0)) (by (with_reducible repeat (first | refine blk_drewN ?_ _ | refine blk_drew ?_ | refine blk_alloc ?_ _));exact b0.out) hb);have d0:=Aside0.mk (blk_below (g:=b4) (o:=.cells #[.int .i64 0,.int .i64 0] 23 (0,0)) (by (with_reducible repeat (first | refine blk_drewN ?_ _ | refine blk_drew ?_ | refine blk_alloc ?_ _));exact b5.out) hb);have d1:=Aside0.mk (below_step (by repeat (first | (with_reducible first | exact HB.out | apply below_alloc | apply pw_below_drewN | apply below_drew1 | refine below_set ?_ b7.out | refine below_set ?_ d2.out) | exact HB.out)) hb);clear b0;clear b5;clear HB;have b0:=c1;have b5:=d0;have HB:=d1;clear c1 d0 d1;(try clear hb);have d9:w8.cell? ⟨b4,0,none⟩ = some (.int .i64 0):=(blk_cell b5.out 0).trans rfl;have e0:w8.cell? ⟨b4,1,none⟩ = some (.int .i64 0):=(blk_cell b5.out 1).trans rfl;have e1:=blk_frozen b5.out 0;have e2:=blk_frozen b5.out 1));refine bodyPost_ret (results_cell_row rfl _ _ b4 23 #[.int .i64 c0,.int .i64 d3] (0,0) _ rfl (by (with_reducible repeat (first | refine blk_drewN ?_ _ | refine blk_drew ?_ | refine blk_alloc ?_ _));refine blk_put (cs:=#[.int .i64 c0,.int .i64 0]) ?_ 1 _ rfl;(with_reducible repeat (first | refine blk_drewN ?_ _ | refine blk_drew ?_ | refine blk_alloc ?_ _));refine blk_put (cs:=#[.int .i64 0,.int .i64 0]) ?_ 0 _ rfl;(with_reducible repeat (first | refine blk_drewN ?_ _ | refine blk_drew ?_ | refine blk_alloc ?_ _));exact b5.out) Try.underlying23 rfl (by kernel_rfl)) rfl ?_;exact ⟨by first | rfl | (simp [errW_none,errW_some] <;> rfl) | (simp [*,errW_none,errW_some] <;> rfl),by repeat (first | (with_reducible first | exact HB.out | apply below_alloc | apply pw_below_drewN | apply below_drew1 | refine below_set ?_ b7.out | refine below_set ?_ d2.out) | exact HB.out)⟩
end Go.Proofs.Ytjohcjfmlhihbaa.G
namespace Go.Proofs.Ytjohcjfmlhihbaa.G
open Go.RowKit Go.Proofs.YtjohcjfmlhihbaaW.PrintWords Go.Proofs.YtjohcjfmlhihbaaW.PrintLast Go.Proofs.YtjohcjfmlhihbaaW.PrintMore
set_option maxHeartbeats 8000000
set_option maxRecDepth 100000
attribute [local go_sem] cond_true cond_false fld23_0 fld23_1 fld45_0 fld45_1 fld109_0 fld109_1 fld94_0 fld94_1 max2_int min2_int max_two min_two max_three min_three max_four min_four
def shares_garment.f (k:Nat) (e3:Int) (e4:Int) (a1:Int) (a2:Int):Option (Int × Int × Int × Int):=(shares_garment_1.f k a2 e3 e4).bind fun h9=>((shares_garment_1.f k a1 e3 e4).bind fun i0=>((shares_add.f k h9.1 h9.2 i0.1 i0.2).bind fun l7=>((shares_minus.f k e3 e4 l7.1 l7.2).bind fun l8=>((shares_over.f k l8.1 l8.2 2).bind fun i1=>((shares_add.f k h9.1 h9.2 i1.1 i1.2).bind fun l9=>((shares_add.f k i0.1 i0.2 i1.1 i1.2).bind fun m0=>(some (l9.1,l9.2,m0.1,m0.2))))))))
theorem shares_garment.mono:∀ a0 a1 a2 a3 k,LeO (shares_garment.f k a0 a1 a2 a3) (shares_garment.f (k + 1) a0 a1 a2 a3):=by
 intro a0 a1 a2 a3 k;unfold shares_garment.f
 repeat' first
   | (with_reducible first | exact shares_add.mono _ _ _ _ _ | exact shares_garment_1.mono _ _ _ _ | exact shares_minus.mono _ _ _ _ _ | exact shares_over.mono _ _ _ _ | exact LeO.refl _ | exact LeO.none _ | refine LeO.ite ?_ ?_ | refine LeO.bind ?_ (fun _=>?_))
   | exact LeO.none _ | refine LeO.ite ?_ ?_ | refine LeO.bind ?_ (fun _=>?_)
def shares_garment.T3:Bool × List (List Nat × List Nat):=(true,[([],[]),([],[]),([],[]),([1,2],[1,2]),([0,3,3],[0,3]),([4,4],[4]),([],[]),([6,5,5,0,1,2,3,4,5,6],[5,6])])
def shares_garment.B3:List Nat:=[0,0,0,6,15,31,0,127]
theorem shares_garment.tab3:rtab .any (opsOf Try.f63 3) = shares_garment.T3:=by kernel_rfl
theorem shares_garment.bits3:waitsOk shares_garment.T3.2 shares_garment.B3 = true:=by kernel_rfl
def shares_garment.T4:Bool × List (List Nat × List Nat):=(true,[([],[]),([],[]),([0,1],[0,1]),([],[]),([],[]),([3,4,2],[3,4]),([2,5,0,1,2],[2]),([5,6,0,1,2,3,4,5,6],[5])])
def shares_garment.B4:List Nat:=[0,0,3,0,0,31,63,127]
theorem shares_garment.tab4:rtab .any (opsOf Try.f63 4) = shares_garment.T4:=by kernel_rfl
theorem shares_garment.bits4:waitsOk shares_garment.T4.2 shares_garment.B4 = true:=by kernel_rfl
theorem shares_garment.calls (k:Nat) (e3:Int) (e4:Int) (a1:Int) (a2:Int) (r1:Int) (r2:Int) (r3:Int) (r4:Int) (w:World) (h:shares_garment.f k e3 e4 a1 a2 = some (r1,r2,r3,r4)) :
  Calls Try.prog 63 #[.agg #[.int .i64 e3,.int .i64 e4],.int .i64 a1,.int .i64 a2] w fun e w'=>e = .returned (.tuple #[.agg #[.int .i64 r1,.int .i64 r2],.agg #[.int .i64 r3,.int .i64 r4]]) ∧ Below w.heap.size w w':=by
 have E5:=Try.underlying23;have HB:=A_ (Below.refl w.heap.size w);have H:((shares_garment_1.f k a2 e3 e4).bind fun h9=>((shares_garment_1.f k a1 e3 e4).bind fun i0=>((shares_add.f k h9.1 h9.2 i0.1 i0.2).bind fun l7=>((shares_minus.f k e3 e4 l7.1 l7.2).bind fun l8=>((shares_over.f k l8.1 l8.2 2).bind fun i1=>((shares_add.f k h9.1 h9.2 i1.1 i1.2).bind fun l9=>((shares_add.f k i0.1 i0.2 i1.1 i1.2).bind fun m0=>(some (l9.1,l9.2,m0.1,m0.2))))))))) = some (r1,r2,r3,r4):=h;clear h;replace H:=Option.bind_eq_some_iff.mp H;obtain ⟨⟨e8,h0⟩,A40,H⟩:=H;dsimp only at H;have A4:=A_ A40;clear A40;replace H:=Option.bind_eq_some_iff.mp H;obtain ⟨⟨e9,h1⟩,A50,H⟩:=H;dsimp only at H;have A5:=A_ A50;clear A50;replace H:=Option.bind_eq_some_iff.mp H;obtain ⟨⟨l5,l6⟩,A60,H⟩:=H;dsimp only at H;have A6:=A_ A60;clear A60;replace H:=Option.bind_eq_some_iff.mp H;obtain ⟨⟨i7,i8⟩,A70,H⟩:=H;dsimp only at H;have A7:=A_ A70;clear A70;replace H:=Option.bind_eq_some_iff.mp H;obtain ⟨⟨h2,h7⟩,A80,H⟩:=H;dsimp only at H;have A8:=A_ A80;clear A80;replace H:=Option.bind_eq_some_iff.mp H;obtain ⟨⟨m4,n2⟩,A90,H⟩:=H;dsimp only at H;have A9:=A_ A90;clear A90;replace H:=Option.bind_eq_some_iff.mp H;obtain ⟨⟨m5,n3⟩,A100,H⟩:=H;dsimp only at H;have E6:=A_ A100;clear A100;simp only [Option.some.injEq,Prod.mk.injEq] at H;obtain ⟨rfl,rfl,rfl,rfl⟩:=H;go_enter Try.func63,Try.ntmps63;try go_wp2_with (first | ((with_reducible refine gate_dst (N:=3) rfl ?_);refine bx 3 #[.int .i64 e3,.int .i64 e4] 23 ?_;intro e5 hg F6 hbox hb;have b0:=A_ hbox;have n4:=gw hg HB;have z4:=n4;replace HB:=bB HB hb;clear hb hbox hg) | ((with_reducible refine gate_dst (N:=6) rfl ?_);refine bx 6 #[.int .i64 0,.int .i64 0] 23 ?_;intro d7 hg F7 hbox hb;have b1:=A_ hbox;have n5:=gw hg HB;have z5:=n5;have j5:=nl hg b0;have j7:=ng hg b0;replace b0:=kB b0 hb;replace HB:=bB HB hb;clear hb hbox hg) | ((with_reducible refine gate_dst (N:=7) rfl ?_);refine bx 7 #[.int .i64 0,.int .i64 0] 23 ?_;intro d8 hg F8 hbox hb;have b2:=A_ hbox;have n6:=gw hg HB;have z6:=n6;have j8:=nl hg b0;have j9:=ng hg b0;have e6:=nl hg b1;have e7:=ng hg b1;replace b0:=kB b0 hb;replace b1:=kB b1 hb;replace HB:=bB HB hb;clear hb hbox hg) | (go_at_call 94;(with_reducible refine (shares_garment_1.calls k a2 e3 e4 e8 h0 _ e5 b0.out A4.out).mono ?_);rintro e F9 ⟨rfl,hb⟩;replace b0:=kB b0 hb;replace b1:=kB b1 hb;replace b2:=kB b2 hb;replace HB:=bB HB hb;(try clear hb)) | (go_at_call 94;(with_reducible refine (shares_garment_1.calls k a1 e3 e4 e9 h1 _ e5 b0.out A5.out).mono ?_);rintro e G0 ⟨rfl,hb⟩;replace b0:=kB b0 hb;replace b1:=kB b1 hb;replace b2:=kB b2 hb;replace HB:=bB HB hb;(try clear hb)) | ((with_reducible refine gate_dst (N:=9) rfl ?_);refine bx 9 #[.int .i64 0,.int .i64 0] 23 ?_;intro d2 hg G1 hbox hb;have b3:=A_ hbox;have n7:=gw hg HB;have z7:=n7;have i2:=nl hg b0;have m1:=ng hg b0;have h3:=nl hg b1;have d9:=ng hg b1;have h4:=nl hg b2;have e0:=ng hg b2;replace b0:=kB b0 hb;replace b1:=kB b1 hb;replace b2:=kB b2 hb;replace HB:=bB HB hb;clear hb hbox hg) | ((with_reducible refine gate_dst (N:=10) rfl ?_);refine bx 10 #[.int .i64 0,.int .i64 0] 23 ?_;intro d3 hg m3 hbox hb;have b4:=A_ hbox;have n8:=gw hg HB;have z8:=n8;have i3:=nl hg b0;have m2:=ng hg b0;have h5:=nl hg b1;have e1:=ng hg b1;have h6:=nl hg b2;have e2:=ng hg b2;have i4:=nl hg b3;have i5:=ng hg b3;replace b0:=kB b0 hb;replace b1:=kB b1 hb;replace b2:=kB b2 hb;replace b3:=kB b3 hb;replace HB:=bB HB hb;clear hb hbox hg;have z9:=m1.out;have A0:=i2.out;have A1:=d9.out;have A2:=h3.out;have A3:=e0.out;have B0:=h4.out;have C0:=i4.out;have C1:=i5.out;have o8:m3.cell? ⟨d2,0,none⟩ = some (.int .i64 0):=cz b3 0;have o9:m3.cell? ⟨d2,1,none⟩ = some (.int .i64 0):=cz b3 1;have p0:=blk_frozen b3.out 0;have p1:=blk_frozen b3.out 1;have C2:=m2.out;have C3:=i3.out;have C4:=e1.out;have C5:=h5.out;have C6:=e2.out;have C7:=h6.out;have p2:m3.cell? ⟨d3,0,none⟩ = some (.int .i64 0):=cz b4 0;have p3:m3.cell? ⟨d3,1,none⟩ = some (.int .i64 0):=cz b4 1;have p4:=blk_frozen b4.out 0;have p5:=blk_frozen b4.out 1))
 have m6:Aside0 (((((m3.setCell ⟨d2,0,none⟩ (.int .i64 e8)).setCell ⟨d2,1,none⟩ (.int .i64 h0)).setCell ⟨d3,0,none⟩ (.int .i64 e9)).setCell ⟨d3,1,none⟩ (.int .i64 h1)).heap[e5]? = some (.cells #[.int .i64 e3,.int .i64 e4] 23 (0,0))):=⟨by refine blk_far ?_ i3.out _;refine blk_far ?_ i3.out _;refine blk_far ?_ i2.out _;refine blk_far ?_ i2.out _;exact b0.out⟩
 have m7:Aside0 (((((m3.setCell ⟨d2,0,none⟩ (.int .i64 e8)).setCell ⟨d2,1,none⟩ (.int .i64 h0)).setCell ⟨d3,0,none⟩ (.int .i64 e9)).setCell ⟨d3,1,none⟩ (.int .i64 h1)).heap[d7]? = some (.cells #[.int .i64 0,.int .i64 0] 23 (0,0))):=⟨by refine blk_far ?_ h5.out _;refine blk_far ?_ h5.out _;refine blk_far ?_ h3.out _;refine blk_far ?_ h3.out _;exact b1.out⟩
 have m8:Aside0 (((((m3.setCell ⟨d2,0,none⟩ (.int .i64 e8)).setCell ⟨d2,1,none⟩ (.int .i64 h0)).setCell ⟨d3,0,none⟩ (.int .i64 e9)).setCell ⟨d3,1,none⟩ (.int .i64 h1)).heap[d8]? = some (.cells #[.int .i64 0,.int .i64 0] 23 (0,0))):=⟨by refine blk_far ?_ h6.out _;refine blk_far ?_ h6.out _;refine blk_far ?_ h4.out _;refine blk_far ?_ h4.out _;exact b2.out⟩
 have m9:Aside0 (((((m3.setCell ⟨d2,0,none⟩ (.int .i64 e8)).setCell ⟨d2,1,none⟩ (.int .i64 h0)).setCell ⟨d3,0,none⟩ (.int .i64 e9)).setCell ⟨d3,1,none⟩ (.int .i64 h1)).heap[d2]? = some (.cells #[.int .i64 e8,.int .i64 h0] 23 (0,0))):=⟨by refine blk_far ?_ i4.out _;refine blk_far ?_ i4.out _;refine blk_put (cs:=#[.int .i64 e8,.int .i64 0]) ?_ 1 _ rfl;refine blk_put (cs:=#[.int .i64 0,.int .i64 0]) ?_ 0 _ rfl;exact b3.out⟩
 have n0:Aside0 (((((m3.setCell ⟨d2,0,none⟩ (.int .i64 e8)).setCell ⟨d2,1,none⟩ (.int .i64 h0)).setCell ⟨d3,0,none⟩ (.int .i64 e9)).setCell ⟨d3,1,none⟩ (.int .i64 h1)).heap[d3]? = some (.cells #[.int .i64 e9,.int .i64 h1] 23 (0,0))):=⟨by refine blk_put (cs:=#[.int .i64 e9,.int .i64 0]) ?_ 1 _ rfl;refine blk_put (cs:=#[.int .i64 0,.int .i64 0]) ?_ 0 _ rfl;refine blk_far ?_ i5.out _;refine blk_far ?_ i5.out _;exact b4.out⟩
 have n1:Aside0 (Below w.heap.size w ((((m3.setCell ⟨d2,0,none⟩ (.int .i64 e8)).setCell ⟨d2,1,none⟩ (.int .i64 h0)).setCell ⟨d3,0,none⟩ (.int .i64 e9)).setCell ⟨d3,1,none⟩ (.int .i64 h1))):=⟨bl HB⟩
 generalize ((((m3.setCell ⟨d2,0,none⟩ (.int .i64 e8)).setCell ⟨d2,1,none⟩ (.int .i64 h0)).setCell ⟨d3,0,none⟩ (.int .i64 e9)).setCell ⟨d3,1,none⟩ (.int .i64 h1)) = E7 at m6 m7 m8 m9 n0 n1 ⊢;have b0:=m6;have b1:=m7;have b2:=m8;have b3:=m9;have b4:=n0;have HB:=n1;clear m6 m7 m8 m9 n0 n1;replace b0:=kD b0;replace b1:=kD b1;replace b2:=kD b2;replace b3:=kD b3;replace b4:=kD b4;replace HB:=bD HB;refine st 8 (fun w'=>w'.cell? ⟨e5,0,none⟩ = some (.int .i64 e3) ∧ w'.cell? ⟨e5,1,none⟩ = some (.int .i64 e4) ∧ w'.cell? ⟨d2,0,none⟩ = some (.int .i64 e8) ∧ w'.cell? ⟨d2,1,none⟩ = some (.int .i64 h0) ∧ w'.cell? ⟨d3,0,none⟩ = some (.int .i64 e9) ∧ w'.cell? ⟨d3,1,none⟩ = some (.int .i64 h1)) [] shares_garment.tab3 shares_garment.bits3 (fun hHeld HT_ HW_=>?_);generalize E7.drew = G2 at b0 b1 b2 b3 b4 HB hHeld ⊢;refine tq 0 19 1 HT_ HW_ hHeld ?_;refine tq 1 20 3 HT_ HW_ hHeld ?_;refine tq 2 21 7 HT_ HW_ hHeld ?_;refine join_ (σ:=Nat) 1 (ba 8 127) (fun s_=>[(22,.agg #[.int .i64 l5,.int .i64 l6]),(23,.agg #[.int .i64 i7,.int .i64 i8]),(24,.agg #[.int .i64 h2,.int .i64 h7]),(11,.pointer (some ⟨s_,0,none⟩))]) (fun s_ w'=>(w'.cell? ⟨e5,0,none⟩ = some (.int .i64 e3) ∧ w'.cell? ⟨e5,1,none⟩ = some (.int .i64 e4) ∧ w'.cell? ⟨d2,0,none⟩ = some (.int .i64 e8) ∧ w'.cell? ⟨d2,1,none⟩ = some (.int .i64 h0) ∧ w'.cell? ⟨d3,0,none⟩ = some (.int .i64 e9) ∧ w'.cell? ⟨d3,1,none⟩ = some (.int .i64 h1)) ∧ (w'.heap[e5]? = some (.cells #[.int .i64 e3,.int .i64 e4] 23 (0,0))) ∧ (w'.heap[d7]? = some (.cells #[.int .i64 0,.int .i64 0] 23 (0,0))) ∧ (w'.heap[d8]? = some (.cells #[.int .i64 0,.int .i64 0] 23 (0,0))) ∧ (w'.heap[d2]? = some (.cells #[.int .i64 e8,.int .i64 h0] 23 (0,0))) ∧ (w'.heap[d3]? = some (.cells #[.int .i64 e9,.int .i64 h1] 23 (0,0))) ∧ (w'.heap[s_]? = some (.cells #[.int .i64 0,.int .i64 0] 23 (0,0))) ∧ (w.heap.size ≤ s_) ∧ (w.heap.size ≤ s_) ∧ (e5 ≠ s_) ∧ (s_ ≠ e5) ∧ (d7 ≠ s_) ∧ (s_ ≠ d7) ∧ (d8 ≠ s_) ∧ (s_ ≠ d8) ∧ (d2 ≠ s_) ∧ (s_ ≠ d2) ∧ (d3 ≠ s_) ∧ (s_ ≠ d3) ∧ (Below w.heap.size w w')) ?_ ?_;rotate_left
 ·intro hCont;refine two_ (i:=3) (j:=6) (Ni:=some 22) (Nj:=some 11) (ba 8 15) (ba 8 71) rfl rfl rfl rfl (two_of HT_.out (by kernel_rfl)) (by decide) (by decide) (fun K hK=>?_) (fun K hK=>?_)
  ·skip;refine gq Try.func88 #[.agg #[.int .i64 e8,.int .i64 h0],.agg #[.int .i64 e9,.int .i64 h1]] ?_;with_reducible refine (shares_add.calls k e8 h0 e9 h1 l5 l6 _ A6.out).mono ?_;rintro e E8 ⟨rfl,hb⟩;refine ⟨_,rfl,?_⟩;replace b0:=kB b0 hb;replace b1:=kB b1 hb;replace b2:=kB b2 hb;replace b3:=kB b3 hb;replace b4:=kB b4 hb;replace HB:=bB HB hb;(try clear hb)
   refine hz hK (fun hHeld=>?_);clear hK K;refine nq 22 ?_;refine two_ (i:=4) (j:=6) (Ni:=some 23) (Nj:=some 11) (ba 8 31) (ba 8 79) rfl rfl rfl rfl (two_of HT_.out (by kernel_rfl)) (by decide) (by decide) (fun K hK=>?_) (fun K hK=>?_)
   ·skip;refine gq Try.func95 #[.agg #[.int .i64 e3,.int .i64 e4],.agg #[.int .i64 l5,.int .i64 l6]] ?_;with_reducible refine (shares_minus.calls k e3 e4 l5 l6 i7 i8 _ A7.out).mono ?_;rintro e C8 ⟨rfl,hb⟩;refine ⟨_,rfl,?_⟩;replace b0:=kB b0 hb;replace b1:=kB b1 hb;replace b2:=kB b2 hb;replace b3:=kB b3 hb;replace b4:=kB b4 hb;replace HB:=bB HB hb;(try clear hb)
    refine hz hK (fun hHeld=>?_);clear hK K;refine nq 23 ?_;refine two_ (i:=5) (j:=6) (Ni:=some 24) (Nj:=some 11) (ba 8 63) (ba 8 95) rfl rfl rfl rfl (two_of HT_.out (by kernel_rfl)) (by decide) (by decide) (fun K hK=>?_) (fun K hK=>?_)
    ·skip;refine gq Try.func96 #[.agg #[.int .i64 i7,.int .i64 i8],.int .i64 2] ?_;with_reducible refine (shares_over.calls k i7 i8 2 h2 h7 _ A8.out).mono ?_;rintro e z1 ⟨rfl,hb⟩;refine ⟨_,rfl,?_⟩;replace b0:=kB b0 hb;replace b1:=kB b1 hb;replace b2:=kB b2 hb;replace b3:=kB b3 hb;replace b4:=kB b4 hb;replace HB:=bB HB hb;(try clear hb)
     refine hz hK (fun hHeld=>?_);clear hK K;refine nq 24 ?_;refine oq 6 11 127 HT_ (fun K hK=>?_);refine box_step ?hg (N:=11) ?hd (cs:=#[.int .i64 0,.int .i64 0]) (t:=23) ?hr ?_;(case hd=>rfl);(case hg=>rfl);(case hr=>first | (go_simp;done) | (go_simp;rfl))
     intro b5 hg z2 hbox hb;have d1:=A_ hbox;have h8:=gw hg HB;have i6:=h8;have b6:=nl hg b0;have d4:=ng hg b0;have c1:=nl hg b1;have b7:=ng hg b1;have d0:=nl hg b2;have b8:=ng hg b2;have b9:=nl hg b3;have d5:=ng hg b3;have c0:=nl hg b4;have d6:=ng hg b4;replace b0:=kB b0 hb;replace b1:=kB b1 hb;replace b2:=kB b2 hb;replace b3:=kB b3 hb;replace b4:=kB b4 hb;replace HB:=bB HB hb;clear hb hbox hg;refine hz hK (fun hHeld=>?_);clear hK K;refine nq 11 ?_;exact norm_ (by simp only [putAll,Act.put,List.setIfInBounds_toArray,List.set_cons_zero,List.set_cons_succ]) (hCont b5 _ ⟨hHeld,b0.out,b1.out,b2.out,b3.out,b4.out,d1.out,h8.out,i6.out,b6.out,d4.out,c1.out,b7.out,d0.out,b8.out,b9.out,d5.out,c0.out,d6.out,HB.out⟩)
    skip;refine box_step ?hg (N:=11) ?hd (cs:=#[.int .i64 0,.int .i64 0]) (t:=23) ?hr ?_;(case hd=>rfl);(case hg=>rfl);(case hr=>first | (go_simp;done) | (go_simp;rfl))
    intro b5 hg z1 hbox hb;have d1:=A_ hbox;have h8:=gw hg HB;have i6:=h8;have b6:=nl hg b0;have d4:=ng hg b0;have c1:=nl hg b1;have b7:=ng hg b1;have d0:=nl hg b2;have b8:=ng hg b2;have b9:=nl hg b3;have d5:=ng hg b3;have c0:=nl hg b4;have d6:=ng hg b4;replace b0:=kB b0 hb;replace b1:=kB b1 hb;replace b2:=kB b2 hb;replace b3:=kB b3 hb;replace b4:=kB b4 hb;replace HB:=bB HB hb;clear hb hbox hg;refine hz hK (fun hHeld=>?_);clear hK K;refine nq 11 ?_;refine oq 5 24 127 HT_ (fun K hK=>?_);refine gq Try.func96 #[.agg #[.int .i64 i7,.int .i64 i8],.int .i64 2] ?_;with_reducible refine (shares_over.calls k i7 i8 2 h2 h7 _ A8.out).mono ?_;rintro e z2 ⟨rfl,hb⟩;refine ⟨_,rfl,?_⟩;replace b0:=kB b0 hb;replace b1:=kB b1 hb;replace b2:=kB b2 hb;replace b3:=kB b3 hb;replace b4:=kB b4 hb;replace d1:=kB d1 hb;replace HB:=bB HB hb;(try clear hb)
    refine hz hK (fun hHeld=>?_);clear hK K;refine nq 24 ?_;exact norm_ (by simp only [putAll,Act.put,List.setIfInBounds_toArray,List.set_cons_zero,List.set_cons_succ]) (hCont b5 _ ⟨hHeld,b0.out,b1.out,b2.out,b3.out,b4.out,d1.out,h8.out,i6.out,b6.out,d4.out,c1.out,b7.out,d0.out,b8.out,b9.out,d5.out,c0.out,d6.out,HB.out⟩)
   skip;refine box_step ?hg (N:=11) ?hd (cs:=#[.int .i64 0,.int .i64 0]) (t:=23) ?hr ?_;(case hd=>rfl);(case hg=>rfl);(case hr=>first | (go_simp;done) | (go_simp;rfl))
   intro b5 hg C8 hbox hb;have d1:=A_ hbox;have h8:=gw hg HB;have i6:=h8;have b6:=nl hg b0;have d4:=ng hg b0;have c1:=nl hg b1;have b7:=ng hg b1;have d0:=nl hg b2;have b8:=ng hg b2;have b9:=nl hg b3;have d5:=ng hg b3;have c0:=nl hg b4;have d6:=ng hg b4;replace b0:=kB b0 hb;replace b1:=kB b1 hb;replace b2:=kB b2 hb;replace b3:=kB b3 hb;replace b4:=kB b4 hb;replace HB:=bB HB hb;clear hb hbox hg;refine hz hK (fun hHeld=>?_);clear hK K;refine nq 11 ?_;refine oq 4 23 95 HT_ (fun K hK=>?_);refine gq Try.func95 #[.agg #[.int .i64 e3,.int .i64 e4],.agg #[.int .i64 l5,.int .i64 l6]] ?_;with_reducible refine (shares_minus.calls k e3 e4 l5 l6 i7 i8 _ A7.out).mono ?_;rintro e z1 ⟨rfl,hb⟩;refine ⟨_,rfl,?_⟩;replace b0:=kB b0 hb;replace b1:=kB b1 hb;replace b2:=kB b2 hb;replace b3:=kB b3 hb;replace b4:=kB b4 hb;replace d1:=kB d1 hb;replace HB:=bB HB hb;(try clear hb)
   refine hz hK (fun hHeld=>?_);clear hK K;refine nq 23 ?_;refine oq 5 24 127 HT_ (fun K hK=>?_);refine gq Try.func96 #[.agg #[.int .i64 i7,.int .i64 i8],.int .i64 2] ?_;with_reducible refine (shares_over.calls k i7 i8 2 h2 h7 _ A8.out).mono ?_;rintro e z2 ⟨rfl,hb⟩;refine ⟨_,rfl,?_⟩;replace b0:=kB b0 hb;replace b1:=kB b1 hb;replace b2:=kB b2 hb;replace b3:=kB b3 hb;replace b4:=kB b4 hb;replace d1:=kB d1 hb;replace HB:=bB HB hb;(try clear hb)
   refine hz hK (fun hHeld=>?_);clear hK K;refine nq 24 ?_;exact norm_ (by simp only [putAll,Act.put,List.setIfInBounds_toArray,List.set_cons_zero,List.set_cons_succ]) (hCont b5 _ ⟨hHeld,b0.out,b1.out,b2.out,b3.out,b4.out,d1.out,h8.out,i6.out,b6.out,d4.out,c1.out,b7.out,d0.out,b8.out,b9.out,d5.out,c0.out,d6.out,HB.out⟩)
  skip;refine box_step ?hg (N:=11) ?hd (cs:=#[.int .i64 0,.int .i64 0]) (t:=23) ?hr ?_;(case hd=>rfl);(case hg=>rfl);(case hr=>first | (go_simp;done) | (go_simp;rfl))
  intro b5 hg E8 hbox hb;have d1:=A_ hbox;have h8:=gw hg HB;have i6:=h8;have b6:=nl hg b0;have d4:=ng hg b0;have c1:=nl hg b1;have b7:=ng hg b1;have d0:=nl hg b2;have b8:=ng hg b2;have b9:=nl hg b3;have d5:=ng hg b3;have c0:=nl hg b4;have d6:=ng hg b4;replace b0:=kB b0 hb;replace b1:=kB b1 hb;replace b2:=kB b2 hb;replace b3:=kB b3 hb;replace b4:=kB b4 hb;replace HB:=bB HB hb;clear hb hbox hg;refine hz hK (fun hHeld=>?_);clear hK K;refine nq 11 ?_;refine oq 3 22 79 HT_ (fun K hK=>?_);refine gq Try.func88 #[.agg #[.int .i64 e8,.int .i64 h0],.agg #[.int .i64 e9,.int .i64 h1]] ?_;with_reducible refine (shares_add.calls k e8 h0 e9 h1 l5 l6 _ A6.out).mono ?_;rintro e C8 ⟨rfl,hb⟩;refine ⟨_,rfl,?_⟩;replace b0:=kB b0 hb;replace b1:=kB b1 hb;replace b2:=kB b2 hb;replace b3:=kB b3 hb;replace b4:=kB b4 hb;replace d1:=kB d1 hb;replace HB:=bB HB hb;(try clear hb)
  refine hz hK (fun hHeld=>?_);clear hK K;refine nq 22 ?_;refine oq 4 23 95 HT_ (fun K hK=>?_);refine gq Try.func95 #[.agg #[.int .i64 e3,.int .i64 e4],.agg #[.int .i64 l5,.int .i64 l6]] ?_;with_reducible refine (shares_minus.calls k e3 e4 l5 l6 i7 i8 _ A7.out).mono ?_;rintro e z1 ⟨rfl,hb⟩;refine ⟨_,rfl,?_⟩;replace b0:=kB b0 hb;replace b1:=kB b1 hb;replace b2:=kB b2 hb;replace b3:=kB b3 hb;replace b4:=kB b4 hb;replace d1:=kB d1 hb;replace HB:=bB HB hb;(try clear hb)
  refine hz hK (fun hHeld=>?_);clear hK K;refine nq 23 ?_;refine oq 5 24 127 HT_ (fun K hK=>?_);refine gq Try.func96 #[.agg #[.int .i64 i7,.int .i64 i8],.int .i64 2] ?_;with_reducible refine (shares_over.calls k i7 i8 2 h2 h7 _ A8.out).mono ?_;rintro e z2 ⟨rfl,hb⟩;refine ⟨_,rfl,?_⟩;replace b0:=kB b0 hb;replace b1:=kB b1 hb;replace b2:=kB b2 hb;replace b3:=kB b3 hb;replace b4:=kB b4 hb;replace d1:=kB d1 hb;replace HB:=bB HB hb;(try clear hb)
  refine hz hK (fun hHeld=>?_);clear hK K;refine nq 24 ?_;exact norm_ (by simp only [putAll,Act.put,List.setIfInBounds_toArray,List.set_cons_zero,List.set_cons_succ]) (hCont b5 _ ⟨hHeld,b0.out,b1.out,b2.out,b3.out,b4.out,d1.out,h8.out,i6.out,b6.out,d4.out,c1.out,b7.out,d0.out,b8.out,b9.out,d5.out,c0.out,d6.out,HB.out⟩)
 rintro b5 i9 ⟨hS_,C9,D0,D1,D2,D3,D4,D5,D6,D7,D8,n9,o0,o1,o2,o3,o4,o5,o6,o7⟩;have d1:Aside0 (i9.heap[b5]? = some (.cells #[.int .i64 0,.int .i64 0] 23 (0,0))):=⟨D4⟩
 have h8:Aside0 (w.heap.size ≤ b5):=⟨D5⟩
 have i6:Aside0 (w.heap.size ≤ b5):=⟨D6⟩
 have b6:Aside0 (e5 ≠ b5):=⟨D7⟩
 have d4:Aside0 (b5 ≠ e5):=⟨D8⟩
 have c1:Aside0 (d7 ≠ b5):=⟨n9⟩
 have b7:Aside0 (b5 ≠ d7):=⟨o0⟩
 have d0:Aside0 (d8 ≠ b5):=⟨o1⟩
 have b8:Aside0 (b5 ≠ d8):=⟨o2⟩
 have b9:Aside0 (d2 ≠ b5):=⟨o3⟩
 have d5:Aside0 (b5 ≠ d2):=⟨o4⟩
 have c0:Aside0 (d3 ≠ b5):=⟨o5⟩
 have d6:Aside0 (b5 ≠ d3):=⟨o6⟩
 replace b0:Aside0 (i9.heap[e5]? = some (.cells #[.int .i64 e3,.int .i64 e4] 23 (0,0))):=⟨C9⟩
 replace b1:Aside0 (i9.heap[d7]? = some (.cells #[.int .i64 0,.int .i64 0] 23 (0,0))):=⟨D0⟩
 replace b2:Aside0 (i9.heap[d8]? = some (.cells #[.int .i64 0,.int .i64 0] 23 (0,0))):=⟨D1⟩
 replace b3:Aside0 (i9.heap[d2]? = some (.cells #[.int .i64 e8,.int .i64 h0] 23 (0,0))):=⟨D2⟩
 replace b4:Aside0 (i9.heap[d3]? = some (.cells #[.int .i64 e9,.int .i64 h1] 23 (0,0))):=⟨D3⟩
 replace HB:Aside0 (Below w.heap.size w i9):=⟨o7⟩
 clear C9 D0 D1 D2 D3 D4 D5 D6 D7 D8 n9 o0 o1 o2 o3 o4 o5 o6 o7;have hHeld:i9.cell? ⟨e5,0,none⟩ = some (.int .i64 e3) ∧ i9.cell? ⟨e5,1,none⟩ = some (.int .i64 e4) ∧ i9.cell? ⟨d2,0,none⟩ = some (.int .i64 e8) ∧ i9.cell? ⟨d2,1,none⟩ = some (.int .i64 h0) ∧ i9.cell? ⟨d3,0,none⟩ = some (.int .i64 e9) ∧ i9.cell? ⟨d3,1,none⟩ = some (.int .i64 h1):=hS_;refine norm_ (a':=?_) ?_ ?_;rotate_left
 ·simp only [putAll,Act.put,List.setIfInBounds_toArray,List.set_cons_zero,List.set_cons_succ];rfl
 refine one_ (i:=7) (N:=none) (ba 8 255) rfl rfl (one_of HT_.out (by kernel_rfl)) (by decide) (fun K hK=>?_);have E9:i9.cell? ⟨b5,0,none⟩ = some (.int .i64 0):=cz d1 0;have D9:=blk_frozen d1.out 0;have p6:=b6.out;have p7:=c1.out;have p8:=d0.out;have p9:=b9.out;have q0:=c0.out;have q1:=d4.out;have q2:=b7.out;have q3:=b8.out;have q4:=d5.out;have q5:=d6.out;have F0:i9.cell? ⟨b5,1,none⟩ = some (.int .i64 0):=cz d1 1;have E0:=blk_frozen d1.out 1;have q6:=b6.out;have q7:=c1.out;have q8:=d0.out;have q9:=b9.out;have r0:=c0.out;have r5:=d4.out;have r6:=b7.out;have r7:=b8.out;have r8:=d5.out;have r9:=d6.out;refine skip_ (w1:=?_) (by rfl) rfl ?_ ?_;rotate_left
 ·go_simp;rfl
 refine hK.out _ _ ⟨((cell_far (p:=⟨b5,_,none⟩) b6.out _).trans (((cell_far (p:=⟨b5,_,none⟩) b6.out _).trans (hHeld.1)))),((cell_far (p:=⟨b5,_,none⟩) b6.out _).trans (((cell_far (p:=⟨b5,_,none⟩) b6.out _).trans (hHeld.2.1)))),((cell_far (p:=⟨b5,_,none⟩) b9.out _).trans (((cell_far (p:=⟨b5,_,none⟩) b9.out _).trans (hHeld.2.2.1)))),((cell_far (p:=⟨b5,_,none⟩) b9.out _).trans (((cell_far (p:=⟨b5,_,none⟩) b9.out _).trans (hHeld.2.2.2.1)))),((cell_far (p:=⟨b5,_,none⟩) c0.out _).trans (((cell_far (p:=⟨b5,_,none⟩) c0.out _).trans (hHeld.2.2.2.2.1)))),((cell_far (p:=⟨b5,_,none⟩) c0.out _).trans (((cell_far (p:=⟨b5,_,none⟩) c0.out _).trans (hHeld.2.2.2.2.2))))⟩ (fun hHeld=>?_);clear hK K;refine done_ (done_of HT_.out (by kernel_rfl)) ?_;try go_wp2
 have m6:Aside0 (((i9.setCell ⟨b5,0,none⟩ (.int .i64 h2)).setCell ⟨b5,1,none⟩ (.int .i64 h7)).heap[e5]? = some (.cells #[.int .i64 e3,.int .i64 e4] 23 (0,0))):=⟨by refine blk_far ?_ b6.out _;refine blk_far ?_ b6.out _;exact b0.out⟩
 have m7:Aside0 (((i9.setCell ⟨b5,0,none⟩ (.int .i64 h2)).setCell ⟨b5,1,none⟩ (.int .i64 h7)).heap[d7]? = some (.cells #[.int .i64 0,.int .i64 0] 23 (0,0))):=⟨by refine blk_far ?_ c1.out _;refine blk_far ?_ c1.out _;exact b1.out⟩
 have m8:Aside0 (((i9.setCell ⟨b5,0,none⟩ (.int .i64 h2)).setCell ⟨b5,1,none⟩ (.int .i64 h7)).heap[d8]? = some (.cells #[.int .i64 0,.int .i64 0] 23 (0,0))):=⟨by refine blk_far ?_ d0.out _;refine blk_far ?_ d0.out _;exact b2.out⟩
 have m9:Aside0 (((i9.setCell ⟨b5,0,none⟩ (.int .i64 h2)).setCell ⟨b5,1,none⟩ (.int .i64 h7)).heap[d2]? = some (.cells #[.int .i64 e8,.int .i64 h0] 23 (0,0))):=⟨by refine blk_far ?_ b9.out _;refine blk_far ?_ b9.out _;exact b3.out⟩
 have n0:Aside0 (((i9.setCell ⟨b5,0,none⟩ (.int .i64 h2)).setCell ⟨b5,1,none⟩ (.int .i64 h7)).heap[d3]? = some (.cells #[.int .i64 e9,.int .i64 h1] 23 (0,0))):=⟨by refine blk_far ?_ c0.out _;refine blk_far ?_ c0.out _;exact b4.out⟩
 have n1:Aside0 (((i9.setCell ⟨b5,0,none⟩ (.int .i64 h2)).setCell ⟨b5,1,none⟩ (.int .i64 h7)).heap[b5]? = some (.cells #[.int .i64 h2,.int .i64 h7] 23 (0,0))):=⟨by refine blk_put (cs:=#[.int .i64 h2,.int .i64 0]) ?_ 1 _ rfl;refine blk_put (cs:=#[.int .i64 0,.int .i64 0]) ?_ 0 _ rfl;exact d1.out⟩
 have z3:Aside0 (Below w.heap.size w ((i9.setCell ⟨b5,0,none⟩ (.int .i64 h2)).setCell ⟨b5,1,none⟩ (.int .i64 h7))):=⟨bl HB⟩
 generalize ((i9.setCell ⟨b5,0,none⟩ (.int .i64 h2)).setCell ⟨b5,1,none⟩ (.int .i64 h7)) = F1 at m6 m7 m8 m9 n0 n1 z3 ⊢;have b0:=m6;have b1:=m7;have b2:=m8;have b3:=m9;have b4:=n0;have d1:=n1;have HB:=z3;clear m6 m7 m8 m9 n0 n1 z3;replace b0:=kD b0;replace b1:=kD b1;replace b2:=kD b2;replace b3:=kD b3;replace b4:=kD b4;replace d1:=kD d1;replace HB:=bD HB;refine st 8 (fun w'=>w'.cell? ⟨d2,0,none⟩ = some (.int .i64 e8) ∧ w'.cell? ⟨d2,1,none⟩ = some (.int .i64 h0) ∧ w'.cell? ⟨b5,0,none⟩ = some (.int .i64 h2) ∧ w'.cell? ⟨b5,1,none⟩ = some (.int .i64 h7) ∧ w'.cell? ⟨d3,0,none⟩ = some (.int .i64 e9) ∧ w'.cell? ⟨d3,1,none⟩ = some (.int .i64 h1)) [] shares_garment.tab4 shares_garment.bits4 (fun hHeld HT_ HW_=>?_);generalize F1.drew = G3 at b0 b1 b2 b3 b4 d1 HB hHeld ⊢;refine tq 0 25 1 HT_ HW_ hHeld ?_;refine tq 1 26 3 HT_ HW_ hHeld ?_;refine tq 3 28 11 HT_ HW_ hHeld ?_;refine tq 4 29 27 HT_ HW_ hHeld ?_;refine oq 2 27 31 HT_ (fun K hK=>?_);refine gq Try.func88 #[.agg #[.int .i64 e8,.int .i64 h0],.agg #[.int .i64 h2,.int .i64 h7]] ?_;with_reducible refine (shares_add.calls k e8 h0 h2 h7 m4 n2 _ A9.out).mono ?_;rintro e G4 ⟨rfl,hb⟩;refine ⟨_,rfl,?_⟩;replace b0:=kB b0 hb;replace b1:=kB b1 hb;replace b2:=kB b2 hb;replace b3:=kB b3 hb;replace b4:=kB b4 hb;replace d1:=kB d1 hb;replace HB:=bB HB hb;(try clear hb)
 refine hz hK (fun hHeld=>?_);clear hK K;refine nq 27 ?_;refine oq 5 30 63 HT_ (fun K hK=>?_);refine gq Try.func88 #[.agg #[.int .i64 e9,.int .i64 h1],.agg #[.int .i64 h2,.int .i64 h7]] ?_;with_reducible refine (shares_add.calls k e9 h1 h2 h7 m5 n3 _ E6.out).mono ?_;rintro e s0 ⟨rfl,hb⟩;refine ⟨_,rfl,?_⟩;replace b0:=kB b0 hb;replace b1:=kB b1 hb;replace b2:=kB b2 hb;replace b3:=kB b3 hb;replace b4:=kB b4 hb;replace d1:=kB d1 hb;replace HB:=bB HB hb;(try clear hb)
 refine hz hK (fun hHeld=>?_);clear hK K;refine nq 30 ?_;refine one_ (i:=6) (N:=none) (ba 8 127) rfl rfl (one_of HT_.out (by kernel_rfl)) (by decide) (fun K hK=>?_);have F2:s0.cell? ⟨d7,0,none⟩ = some (.int .i64 0):=cz b1 0;have E1:=blk_frozen b1.out 0;have s1:=j5.out;have s2:=e7.out;have s3:=d9.out;have s4:=e1.out;have s5:=b7.out;have s6:=j7.out;have s7:=e6.out;have s8:=h3.out;have s9:=h5.out;have t0:=c1.out;have F3:s0.cell? ⟨d7,1,none⟩ = some (.int .i64 0):=cz b1 1;have E2:=blk_frozen b1.out 1;have t1:=j5.out;have t2:=e7.out;have t3:=d9.out;have t4:=e1.out;have t5:=b7.out;have t6:=j7.out;have t7:=e6.out;have t8:=h3.out;have t9:=h5.out;have x0:=c1.out;refine skip_ (w1:=?_) (by rfl) rfl ?_ ?_;rotate_left
 ·go_simp;rfl
 refine hK.out _ _ ⟨((cell_far (p:=⟨d7,_,none⟩) d9.out _).trans (((cell_far (p:=⟨d7,_,none⟩) d9.out _).trans (hHeld.1)))),((cell_far (p:=⟨d7,_,none⟩) d9.out _).trans (((cell_far (p:=⟨d7,_,none⟩) d9.out _).trans (hHeld.2.1)))),((cell_far (p:=⟨d7,_,none⟩) b7.out _).trans (((cell_far (p:=⟨d7,_,none⟩) b7.out _).trans (hHeld.2.2.1)))),((cell_far (p:=⟨d7,_,none⟩) b7.out _).trans (((cell_far (p:=⟨d7,_,none⟩) b7.out _).trans (hHeld.2.2.2.1)))),((cell_far (p:=⟨d7,_,none⟩) e1.out _).trans (((cell_far (p:=⟨d7,_,none⟩) e1.out _).trans (hHeld.2.2.2.2.1)))),((cell_far (p:=⟨d7,_,none⟩) e1.out _).trans (((cell_far (p:=⟨d7,_,none⟩) e1.out _).trans (hHeld.2.2.2.2.2))))⟩ (fun hHeld=>?_);clear hK K;refine one_ (i:=7) (N:=none) (ba 8 255) rfl rfl (one_of HT_.out (by kernel_rfl)) (by decide) (fun K hK=>?_);have F4:s0.cell? ⟨d8,0,none⟩ = some (.int .i64 0):=cz b2 0;have E3:=blk_frozen b2.out 0;have x1:=j8.out;have x2:=e6.out;have x3:=e0.out;have x4:=e2.out;have x5:=b8.out;have x6:=j9.out;have x7:=e7.out;have x8:=h4.out;have x9:=h6.out;have y0:=d0.out;have F5:s0.cell? ⟨d8,1,none⟩ = some (.int .i64 0):=cz b2 1;have E4:=blk_frozen b2.out 1;have y1:=j8.out;have y2:=e6.out;have y3:=e0.out;have y4:=e2.out;have y5:=b8.out;have y6:=j9.out;have y7:=e7.out;have y8:=h4.out;have y9:=h6.out;have z0:=d0.out;refine skip_ (w1:=?_) (by rfl) rfl ?_ ?_;rotate_left
 ·go_simp;rfl
 refine hK.out _ _ ⟨((cell_far (p:=⟨d8,_,none⟩) e0.out _).trans (((cell_far (p:=⟨d8,_,none⟩) e0.out _).trans (hHeld.1)))),((cell_far (p:=⟨d8,_,none⟩) e0.out _).trans (((cell_far (p:=⟨d8,_,none⟩) e0.out _).trans (hHeld.2.1)))),((cell_far (p:=⟨d8,_,none⟩) b8.out _).trans (((cell_far (p:=⟨d8,_,none⟩) b8.out _).trans (hHeld.2.2.1)))),((cell_far (p:=⟨d8,_,none⟩) b8.out _).trans (((cell_far (p:=⟨d8,_,none⟩) b8.out _).trans (hHeld.2.2.2.1)))),((cell_far (p:=⟨d8,_,none⟩) e2.out _).trans (((cell_far (p:=⟨d8,_,none⟩) e2.out _).trans (hHeld.2.2.2.2.1)))),((cell_far (p:=⟨d8,_,none⟩) e2.out _).trans (((cell_far (p:=⟨d8,_,none⟩) e2.out _).trans (hHeld.2.2.2.2.2))))⟩ (fun hHeld=>?_);clear hK K;refine done_ (done_of HT_.out (by kernel_rfl)) ?_;try go_wp2
 refine bodyPost_ret (results_cc rfl _ _ d7 d8 23 23 #[.int .i64 m4,.int .i64 n2] #[.int .i64 m5,.int .i64 n3] (0,0) (0,0) _ _ rfl (by refine blk_far ?_ e6.out _;refine blk_far ?_ e6.out _;refine blk_put (cs:=#[.int .i64 m4,.int .i64 0]) ?_ 1 _ rfl;refine blk_put (cs:=#[.int .i64 0,.int .i64 0]) ?_ 0 _ rfl;exact b1.out) Try.underlying23 rfl (by kernel_rfl) rfl (by refine blk_put (cs:=#[.int .i64 m5,.int .i64 0]) ?_ 1 _ rfl;refine blk_put (cs:=#[.int .i64 0,.int .i64 0]) ?_ 0 _ rfl;refine blk_far ?_ e7.out _;refine blk_far ?_ e7.out _;exact b2.out) Try.underlying23 rfl (by kernel_rfl)) rfl ?_;exact ⟨rfl,bl HB⟩
def shares_Garment.f (k:Nat) (a0:Int) (a1:Int) (a2:Int):Option (Int × Int × Int × Int × Int):=(shares_newClaims.f k (([a1,a2]:List Int)) a0).bind fun h5=>(if h5.2.2 = true then ((shares_whole.f a0).bind fun h3=>((shares_garment.f k h3.1 h3.2 a1 a2).bind fun d5=>(some (d5.1,d5.2.1,d5.2.2.1,d5.2.2.2,0)))) else (some (0,0,0,0,2)))
theorem shares_Garment.mono:∀ a0 a1 a2 k,LeO (shares_Garment.f k a0 a1 a2) (shares_Garment.f (k + 1) a0 a1 a2):=by
 intro a0 a1 a2 k;unfold shares_Garment.f
 repeat' first
   | (with_reducible first | exact shares_garment.mono _ _ _ _ _ | exact shares_newClaims.mono _ _ _ | exact LeO.refl _ | exact LeO.none _ | refine LeO.ite ?_ ?_ | refine LeO.bind ?_ (fun _=>?_))
   | exact LeO.none _ | refine LeO.ite ?_ ?_ | refine LeO.bind ?_ (fun _=>?_)
theorem shares_Garment.calls (k:Nat) (a0:Int) (a1:Int) (a2:Int) (r1:Int) (r2:Int) (r3:Int) (r4:Int) (r5:Int) (w:World) (h:shares_Garment.f k a0 a1 a2 = some (r1,r2,r3,r4,r5)) :
  Calls Try.prog 20 #[.int .i64 a0,.int .i64 a1,.int .i64 a2] w fun e w'=>e = .returned (.tuple #[.agg #[.int .i64 r1,.int .i64 r2],.agg #[.int .i64 r3,.int .i64 r4],.int .i64 r5]) ∧ Below w.heap.size w w':=by
 have A1:=Try.underlying23;have A2:=Try.underlying94;have HB:=A_ (Below.refl w.heap.size w);have H:((shares_newClaims.f k (([a1,a2]:List Int)) a0).bind fun h5=>(if h5.2.2 = true then ((shares_whole.f a0).bind fun h3=>((shares_garment.f k h3.1 h3.2 a1 a2).bind fun d5=>(some (d5.1,d5.2.1,d5.2.2.1,d5.2.2.2,0)))) else (some (0,0,0,0,2)))) = some (r1,r2,r3,r4,r5):=h;clear h;obtain ⟨h4,i1⟩:∃ y_:List Int,y_ = (([a1,a2]:List Int)):=⟨_,rfl⟩
 replace H:((shares_newClaims.f k h4 a0).bind fun h5=>(if h5.2.2 = true then ((shares_whole.f a0).bind fun h3=>((shares_garment.f k h3.1 h3.2 a1 a2).bind fun d5=>(some (d5.1,d5.2.1,d5.2.2.1,d5.2.2.2,0)))) else (some (0,0,0,0,2)))) = some (r1,r2,r3,r4,r5):=by rw [i1];exact H
 have h7:=A_ i1;clear i1;replace H:=Option.bind_eq_some_iff.mp H;obtain ⟨⟨h6,i2,s5⟩,A40,H⟩:=H;dsimp only at H;have A4:=A_ A40;clear A40;by_cases c5:s5 = true
 case neg =>
  replace c5:=Bool.eq_false_iff.mpr c5;subst c5;rw [if_neg (show ¬ (false = true) by decide)] at H;simp only [Option.some.injEq,Prod.mk.injEq] at H;obtain ⟨rfl,rfl,rfl,rfl,rfl⟩:=H;go_enter Try.func20,Try.ntmps20;go_wp2_with (first | ((with_reducible refine gate_dst (N:=6) rfl ?_);refine bx 6 #[.int .i64 0,.int .i64 0] 23 ?_;intro d2 hg C2 hbox hb;have b0:=A_ hbox;have i3:=gw hg HB;have i4:=i3;replace HB:=bB HB hb;clear hb hbox hg) | ((with_reducible refine gate_dst (N:=7) rfl ?_);refine bx 7 #[.int .i64 0,.int .i64 0] 23 ?_;intro d3 hg C3 hbox hb;have b1:=A_ hbox;have i5:=gw hg HB;have i6:=i5;have b3:=nl hg b0;have b4:=ng hg b0;replace b0:=kB b0 hb;replace HB:=bB HB hb;clear hb hbox hg) | ((with_reducible refine gate_dst (N:=16) rfl ?_);refine Kd.R_lit (Kd.int .i64) _ 3 ?hg (N:=16) ?hd (xs:=([a1,a2]:List Int)) (inner:=[.int .i64 a1,.int .i64 a2]) (ok:=fun _=>True) (okp:=fun _=>True) ?hr ?hp (fun _ hk=>hk) trivial (Below.refl _ _) (Nat.le_refl _) (by simp) ?_;(case hd=>rfl);(case hg=>rfl);(case hr=>first | (go_simp;done) | (go_simp;rfl));(case hp=>exact (Reps.one (show Kd.M (Kd.int .i64) _ _ _ a1 [.int .i64 a1] from rfl) (Reps.one (show Kd.M (Kd.int .i64) _ _ _ a2 [.int .i64 a2] from rfl) (Reps.none _ _))));intro s6 C4 i7 hb hg_ hnew_;clear hg_ hnew_;(first | rw [← h7.out] at i7 | (simp only [Int.reduceToNat] at i7;rw [← h7.out] at i7));have e3:=A_ (Kd.R_lower i7 (below_size HB.out));replace b0:=kB b0 hb;replace b1:=kB b1 hb;replace HB:=bB HB hb;clear hb i7;obtain ⟨j8,j9,s7⟩:=Kd.R_slice e3.out;subst s7) | ((with_reducible refine gate_callee (f:=62) rfl ?_);refine gL (some 18) Try.func62 #[.slice j8 h4.length j9,.int .i64 a0] ?_;(with_reducible refine (shares_newClaims.calls k (fun k_=>some k_ = (.slice j8 h4.length j9:Value).ownBlock) (.slice j8 h4.length j9) h4 a0 h6 i2 false w _ ?side1 ?side2 A4.out).mono ?_);(case side1=>repeat (first | (with_reducible first | exact HB.out | apply below_alloc | apply pw_below_drewN | apply below_drew1 | refine below_set ?_ i4.out | refine below_set ?_ i6.out) | exact HB.out));(case side2=>exact Kd.R_tight rfl e3.out);rintro e C5 ⟨s8,rfl,s9,hb,hkp⟩;refine ⟨_,rfl,?_⟩;have b7:=A_ (Kd.R_mono (ok':=fun k_=>True) s9 (fun k_ hk_=>trivial));replace b0:=A_ (blk_kept b0.out hkp (fun hs_=>(fun e_=>(Kd.R_ne e3.out b0.out (by decide)) e_) hs_));replace b1:=A_ (blk_kept b1.out hkp (fun hs_=>(fun e_=>(Kd.R_ne e3.out b1.out (by decide)) e_) hs_));replace HB:=A_ hb;clear e3;(try clear hb)) | ((with_reducible refine gate_dst (N:=9) rfl ?_);refine bx 9 #[.slice none 0 0,.int .i64 0] 94 ?_;intro e6 hg l9 hbox hb;have b2:=A_ hbox;have i8:=gw hg HB;have m0:=i8;have b8:=nl hg b0;have d6:=ng hg b0;have b9:=nl hg b1;have d7:=ng hg b1;replace b7:=rB b7 hb;replace b0:=kB b0 hb;replace b1:=kB b1 hb;replace HB:=bB HB hb;clear hb hbox hg;obtain ⟨A3,A5,t0⟩:=Kd.R_slice b7.out;subst t0;have x0:=d6.out;have x1:=b8.out;have x2:=d7.out;have x3:=b9.out;have m3:l9.cell? ⟨e6,0,none⟩ = some (.slice none 0 0):=cz b2 0;have m4:l9.cell? ⟨e6,1,none⟩ = some (.int .i64 0):=cz b2 1;have m5:=blk_frozen b2.out 0;have m6:=blk_frozen b2.out 1;have x4:=b3.out;have x5:=b4.out;have m7:l9.cell? ⟨d2,0,none⟩ = some (.int .i64 0):=cz b0 0;have m8:l9.cell? ⟨d2,1,none⟩ = some (.int .i64 0):=cz b0 1;have m9:=blk_frozen b0.out 0;have n0:=blk_frozen b0.out 1;have n1:l9.cell? ⟨d3,0,none⟩ = some (.int .i64 0):=cz b1 0;have n2:l9.cell? ⟨d3,1,none⟩ = some (.int .i64 0):=cz b1 1;have n3:=blk_frozen b1.out 0;have n4:=blk_frozen b1.out 1));refine bodyPost_ret (results_list (rs:=[.cell 6 23,.cell 7 23,.tmp 8]) rfl (by simp) (.cell d2 23 #[.int .i64 0,.int .i64 0] (0,0) _ rfl (by refine blk_far ?_ b3.out _;refine blk_far ?_ b3.out _;refine blk_put (cs:=#[.int .i64 0,.int .i64 0]) ?_ 1 _ rfl;refine blk_put (cs:=#[.int .i64 0,.int .i64 0]) ?_ 0 _ rfl;refine blk_far ?_ b8.out _;refine blk_far ?_ b8.out _;exact b0.out) Try.underlying23 rfl (by kernel_rfl) (.cell d3 23 #[.int .i64 0,.int .i64 0] (0,0) _ rfl (by refine blk_put (cs:=#[.int .i64 0,.int .i64 0]) ?_ 1 _ rfl;refine blk_put (cs:=#[.int .i64 0,.int .i64 0]) ?_ 0 _ rfl;refine blk_far ?_ b4.out _;refine blk_far ?_ b4.out _;refine blk_far ?_ b9.out _;refine blk_far ?_ b9.out _;exact b1.out) Try.underlying23 rfl (by kernel_rfl) (.tmp .nil)))) rfl ?_;exact ⟨rfl,bl HB⟩
 subst c5;rw [if_pos rfl] at H;replace H:=Option.bind_eq_some_iff.mp H;obtain ⟨⟨l5,l6⟩,A60,H⟩:=H;dsimp only at H;have A6:=A_ A60;clear A60;replace H:=Option.bind_eq_some_iff.mp H;obtain ⟨⟨e4,e7,e5,e8⟩,A70,H⟩:=H;dsimp only at H;have A7:=A_ A70;clear A70;simp only [Option.some.injEq,Prod.mk.injEq] at H;obtain ⟨rfl,rfl,rfl,rfl,rfl⟩:=H;go_enter Try.func20,Try.ntmps20;try go_wp2_with (first | ((with_reducible refine gate_dst (N:=6) rfl ?_);refine bx 6 #[.int .i64 0,.int .i64 0] 23 ?_;intro d2 hg w8 hbox hb;have b0:=A_ hbox;have i3:=gw hg HB;have i4:=i3;replace HB:=bB HB hb;clear hb hbox hg) | ((with_reducible refine gate_dst (N:=7) rfl ?_);refine bx 7 #[.int .i64 0,.int .i64 0] 23 ?_;intro d3 hg w9 hbox hb;have b1:=A_ hbox;have i5:=gw hg HB;have i6:=i5;have b3:=nl hg b0;have b4:=ng hg b0;replace b0:=kB b0 hb;replace HB:=bB HB hb;clear hb hbox hg) | ((with_reducible refine gate_dst (N:=16) rfl ?_);refine Kd.R_lit (Kd.int .i64) _ 3 ?hg (N:=16) ?hd (xs:=([a1,a2]:List Int)) (inner:=[.int .i64 a1,.int .i64 a2]) (ok:=fun _=>True) (okp:=fun _=>True) ?hr ?hp (fun _ hk=>hk) trivial (Below.refl _ _) (Nat.le_refl _) (by simp) ?_;(case hd=>rfl);(case hg=>rfl);(case hr=>first | (go_simp;done) | (go_simp;rfl));(case hp=>exact (Reps.one (show Kd.M (Kd.int .i64) _ _ _ a1 [.int .i64 a1] from rfl) (Reps.one (show Kd.M (Kd.int .i64) _ _ _ a2 [.int .i64 a2] from rfl) (Reps.none _ _))));intro s6 C6 i9 hb hg_ hnew_;clear hg_ hnew_;(first | rw [← h7.out] at i9 | (simp only [Int.reduceToNat] at i9;rw [← h7.out] at i9));have e3:=A_ (Kd.R_lower i9 (below_size (bl HB)));replace b0:=kB b0 hb;replace b1:=kB b1 hb;replace HB:=bB HB hb;clear hb i9;obtain ⟨l7,l8,t1⟩:=Kd.R_slice e3.out;subst t1) | ((with_reducible refine gate_callee (f:=62) rfl ?_);refine gL (some 18) Try.func62 #[.slice l7 h4.length l8,.int .i64 a0] ?_;(with_reducible refine (shares_newClaims.calls k (fun k_=>some k_ = (.slice l7 h4.length l8:Value).ownBlock) (.slice l7 h4.length l8) h4 a0 h6 i2 true w _ ?side1 ?side2 A4.out).mono ?_);(case side1=>repeat (first | (with_reducible first | exact HB.out | apply below_alloc | apply pw_below_drewN | apply below_drew1 | refine below_set ?_ i4.out | refine below_set ?_ i6.out) | exact HB.out));(case side2=>exact Kd.R_tight rfl e3.out);rintro e C7 ⟨s8,rfl,s9,hb,hkp⟩;refine ⟨_,rfl,?_⟩;have b7:=A_ (Kd.R_mono (ok':=fun k_=>True) s9 (fun k_ hk_=>trivial));replace b0:=A_ (blk_kept b0.out hkp (fun hs_=>(fun e_=>(Kd.R_ne e3.out b0.out (by decide)) e_) hs_));replace b1:=A_ (blk_kept b1.out hkp (fun hs_=>(fun e_=>(Kd.R_ne e3.out b1.out (by decide)) e_) hs_));replace HB:=A_ hb;clear e3;(try clear hb)) | ((with_reducible refine gate_dst (N:=9) rfl ?_);refine bx 9 #[.slice none 0 0,.int .i64 0] 94 ?_;intro e6 hg x6 hbox hb;have b2:=A_ hbox;have i8:=gw hg HB;have m0:=i8;have b8:=nl hg b0;have d6:=ng hg b0;have b9:=nl hg b1;have d7:=ng hg b1;replace b7:=rB b7 hb;replace b0:=kB b0 hb;replace b1:=kB b1 hb;replace HB:=bB HB hb;clear hb hbox hg;obtain ⟨j5,j7,t2⟩:=Kd.R_slice b7.out;subst t2;have x7:=d6.out;have x8:=b8.out;have x9:=d7.out;have y0:=b9.out;have n5:x6.cell? ⟨e6,0,none⟩ = some (.slice none 0 0):=cz b2 0;have n6:x6.cell? ⟨e6,1,none⟩ = some (.int .i64 0):=cz b2 1;have n7:=blk_frozen b2.out 0;have n8:=blk_frozen b2.out 1) | ((with_reducible refine gate_callee (f:=64) rfl ?_);refine gL (some 27) Try.func64 #[.int .i64 a0] ?_;(with_reducible refine (shares_whole.calls a0 l5 l6 _ A6.out).mono ?_);rintro e C8 ⟨rfl,hb⟩;refine ⟨_,rfl,?_⟩;replace b7:=A_ (Kd.R_below (by exact (Kd.R_mono (Kd.R_far (p:=⟨e6,1,none⟩) (Kd.R_far (p:=⟨e6,0,none⟩) (Kd.R_types b7.out b2.out (by decide)) (fun _ hk=>hk.2) (.slice j5 h6.length j7)) (fun _ hk=>hk.2) (.int .i64 i2)) (fun _ h_=>h_.1))) hb);replace b0:=kB b0 hb;replace b1:=kB b1 hb;replace b2:=A_ (blk_below (g:=e6) (o:=.cells #[.slice j5 h6.length j7,.int .i64 i2] 94 (0,0)) (by refine blk_put (cs:=#[.slice j5 h6.length j7,.int .i64 0]) ?_ 1 _ rfl;refine blk_put (cs:=#[.slice none 0 0,.int .i64 0]) ?_ 0 _ rfl;exact b2.out) hb);replace HB:=bB HB hb;(try clear hb)) | ((with_reducible refine gate_callee (f:=63) rfl ?_);refine gL (some 30) Try.func63 #[.agg #[.int .i64 l5,.int .i64 l6],.int .i64 a1,.int .i64 a2] ?_;(with_reducible refine (shares_garment.calls k l5 l6 a1 a2 e4 e7 e5 e8 _ A7.out).mono ?_);rintro e C9 ⟨rfl,hb⟩;refine ⟨_,rfl,?_⟩;replace b7:=rB b7 hb;replace b0:=kB b0 hb;replace b1:=kB b1 hb;replace b2:=kB b2 hb;replace HB:=bB HB hb;(try clear hb)) | ((with_reducible refine gate_dst (N:=11) rfl ?_);refine bx 11 #[.int .i64 0,.int .i64 0] 23 ?_;intro b5 hg D0 hbox hb;have d4:=A_ hbox;have m1:=gw hg HB;have y1:=m1;have d8:=nl hg b0;have c0:=ng hg b0;have d9:=nl hg b1;have c1:=ng hg b1;have e9:=nl hg b2;have h8:=ng hg b2;replace b7:=rB b7 hb;replace b0:=kB b0 hb;replace b1:=kB b1 hb;replace b2:=kB b2 hb;replace HB:=bB HB hb;clear hb hbox hg) | ((with_reducible refine gate_dst (N:=12) rfl ?_);refine bx 12 #[.int .i64 0,.int .i64 0] 23 ?_;intro b6 hg i0 hbox hb;have e2:=A_ hbox;have m2:=gw hg HB;have y2:=m2;have e0:=nl hg b0;have d0:=ng hg b0;have e1:=nl hg b1;have d1:=ng hg b1;have h0:=nl hg b2;have h9:=ng hg b2;have h1:=nl hg d4;have h2:=ng hg d4;replace b7:=rB b7 hb;replace b0:=kB b0 hb;replace b1:=kB b1 hb;replace b2:=kB b2 hb;replace d4:=kB d4 hb;replace HB:=bB HB hb;clear hb hbox hg;have y3:=c0.out;have y4:=d8.out;have y5:=c1.out;have y6:=d9.out;have y7:=h8.out;have y8:=e9.out;have y9:=h1.out;have z0:=h2.out;have n9:i0.cell? ⟨b5,0,none⟩ = some (.int .i64 0):=cz d4 0;have o0:i0.cell? ⟨b5,1,none⟩ = some (.int .i64 0):=cz d4 1;have o1:=blk_frozen d4.out 0;have o2:=blk_frozen d4.out 1;have z1:=d0.out;have z2:=e0.out;have z3:=d1.out;have z4:=e1.out;have z5:=h9.out;have z6:=h0.out;have o3:i0.cell? ⟨b6,0,none⟩ = some (.int .i64 0):=cz e2 0;have o4:i0.cell? ⟨b6,1,none⟩ = some (.int .i64 0):=cz e2 1;have o5:=blk_frozen e2.out 0;have o6:=blk_frozen e2.out 1))
 have t3:Aside0 (Kd.R (Kd.int .i64) 3 ((((i0.setCell ⟨b5,0,none⟩ (.int .i64 e4)).setCell ⟨b5,1,none⟩ (.int .i64 e7)).setCell ⟨b6,0,none⟩ (.int .i64 e5)).setCell ⟨b6,1,none⟩ (.int .i64 e8)) w.heap.size (fun _=>True) (.slice j5 h6.length j7) h6):=⟨by exact Kd.R_mono (Kd.R_far (p:=⟨b6,1,none⟩) (Kd.R_far (p:=⟨b6,0,none⟩) (Kd.R_far (p:=⟨b5,1,none⟩) (Kd.R_far (p:=⟨b5,0,none⟩) (Kd.R_types (Kd.R_types b7.out d4.out (by decide)) e2.out (by decide)) (fun _ hk=>hk.1.2) (.int .i64 e4)) (fun _ hk=>hk.1.2) (.int .i64 e7)) (fun _ hk=>hk.2) (.int .i64 e5)) (fun _ hk=>hk.2) (.int .i64 e8)) (fun _ hk=>trivial)⟩
 have t4:Aside0 (((((i0.setCell ⟨b5,0,none⟩ (.int .i64 e4)).setCell ⟨b5,1,none⟩ (.int .i64 e7)).setCell ⟨b6,0,none⟩ (.int .i64 e5)).setCell ⟨b6,1,none⟩ (.int .i64 e8)).heap[d2]? = some (.cells #[.int .i64 0,.int .i64 0] 23 (0,0))):=⟨by refine blk_far ?_ e0.out _;refine blk_far ?_ e0.out _;refine blk_far ?_ d8.out _;refine blk_far ?_ d8.out _;exact b0.out⟩
 have t5:Aside0 (((((i0.setCell ⟨b5,0,none⟩ (.int .i64 e4)).setCell ⟨b5,1,none⟩ (.int .i64 e7)).setCell ⟨b6,0,none⟩ (.int .i64 e5)).setCell ⟨b6,1,none⟩ (.int .i64 e8)).heap[d3]? = some (.cells #[.int .i64 0,.int .i64 0] 23 (0,0))):=⟨by refine blk_far ?_ e1.out _;refine blk_far ?_ e1.out _;refine blk_far ?_ d9.out _;refine blk_far ?_ d9.out _;exact b1.out⟩
 have t6:Aside0 (((((i0.setCell ⟨b5,0,none⟩ (.int .i64 e4)).setCell ⟨b5,1,none⟩ (.int .i64 e7)).setCell ⟨b6,0,none⟩ (.int .i64 e5)).setCell ⟨b6,1,none⟩ (.int .i64 e8)).heap[e6]? = some (.cells #[.slice j5 h6.length j7,.int .i64 i2] 94 (0,0))):=⟨by refine blk_far ?_ h0.out _;refine blk_far ?_ h0.out _;refine blk_far ?_ e9.out _;refine blk_far ?_ e9.out _;exact b2.out⟩
 have t7:Aside0 (((((i0.setCell ⟨b5,0,none⟩ (.int .i64 e4)).setCell ⟨b5,1,none⟩ (.int .i64 e7)).setCell ⟨b6,0,none⟩ (.int .i64 e5)).setCell ⟨b6,1,none⟩ (.int .i64 e8)).heap[b5]? = some (.cells #[.int .i64 e4,.int .i64 e7] 23 (0,0))):=⟨by refine blk_far ?_ h1.out _;refine blk_far ?_ h1.out _;refine blk_put (cs:=#[.int .i64 e4,.int .i64 0]) ?_ 1 _ rfl;refine blk_put (cs:=#[.int .i64 0,.int .i64 0]) ?_ 0 _ rfl;exact d4.out⟩
 have t8:Aside0 (((((i0.setCell ⟨b5,0,none⟩ (.int .i64 e4)).setCell ⟨b5,1,none⟩ (.int .i64 e7)).setCell ⟨b6,0,none⟩ (.int .i64 e5)).setCell ⟨b6,1,none⟩ (.int .i64 e8)).heap[b6]? = some (.cells #[.int .i64 e5,.int .i64 e8] 23 (0,0))):=⟨by refine blk_put (cs:=#[.int .i64 e5,.int .i64 0]) ?_ 1 _ rfl;refine blk_put (cs:=#[.int .i64 0,.int .i64 0]) ?_ 0 _ rfl;refine blk_far ?_ h2.out _;refine blk_far ?_ h2.out _;exact e2.out⟩
 have t9:Aside0 (Below w.heap.size w ((((i0.setCell ⟨b5,0,none⟩ (.int .i64 e4)).setCell ⟨b5,1,none⟩ (.int .i64 e7)).setCell ⟨b6,0,none⟩ (.int .i64 e5)).setCell ⟨b6,1,none⟩ (.int .i64 e8))):=⟨bl HB⟩
 generalize ((((i0.setCell ⟨b5,0,none⟩ (.int .i64 e4)).setCell ⟨b5,1,none⟩ (.int .i64 e7)).setCell ⟨b6,0,none⟩ (.int .i64 e5)).setCell ⟨b6,1,none⟩ (.int .i64 e8)) = A8 at t3 t4 t5 t6 t7 t8 t9 ⊢;have b7:=t3;have b0:=t4;have b1:=t5;have b2:=t6;have d4:=t7;have e2:=t8;have HB:=t9;clear t3 t4 t5 t6 t7 t8 t9;replace b7:=rD b7;replace b0:=kD b0;replace b1:=kD b1;replace b2:=kD b2;replace d4:=kD d4;replace e2:=kD e2;replace HB:=bD HB;refine start_ (n:=5) (S:=fun w'=>w'.cell? ⟨b5,0,none⟩ = some (.int .i64 e4) ∧ w'.cell? ⟨b5,1,none⟩ = some (.int .i64 e7) ∧ w'.cell? ⟨b6,0,none⟩ = some (.int .i64 e5) ∧ w'.cell? ⟨b6,1,none⟩ = some (.int .i64 e8)) (ds:=[]) (ba 5 0) (by kernel_rfl) rfl rfl ⟨cz d4 0,cz d4 1,cz e2 0,cz e2 1⟩ (fun hHeld=>?_);generalize A8.drew = o7 at b7 b0 b1 b2 d4 e2 HB hHeld ⊢;refine tr 0 33 1 hHeld ?_;refine tr 1 34 3 hHeld ?_;refine one_ (i:=2) (N:=none) (ba 5 7) rfl rfl (by kernel_rfl) (by decide) (fun K hK=>?_);have A9:o7.cell? ⟨d2,0,none⟩ = some (.int .i64 0):=cz b0 0;have z7:=blk_frozen b0.out 0;have o8:=b4.out;have o9:=d6.out;have p0:=c0.out;have p1:=d0.out;have p2:=b3.out;have p3:=b8.out;have p4:=d8.out;have p5:=e0.out;have B0:o7.cell? ⟨d2,1,none⟩ = some (.int .i64 0):=cz b0 1;have z8:=blk_frozen b0.out 1;have p6:=b4.out;have p7:=d6.out;have p8:=c0.out;have p9:=d0.out;have q0:=b3.out;have q1:=b8.out;have q2:=d8.out;have q3:=e0.out;refine skip_ (w1:=?_) (by rfl) rfl ?_ ?_;rotate_left
 ·go_simp;rfl
 refine hK.out _ _ ⟨((cell_far (p:=⟨d2,_,none⟩) c0.out _).trans (((cell_far (p:=⟨d2,_,none⟩) c0.out _).trans (hHeld.1)))),((cell_far (p:=⟨d2,_,none⟩) c0.out _).trans (((cell_far (p:=⟨d2,_,none⟩) c0.out _).trans (hHeld.2.1)))),((cell_far (p:=⟨d2,_,none⟩) d0.out _).trans (((cell_far (p:=⟨d2,_,none⟩) d0.out _).trans (hHeld.2.2.1)))),((cell_far (p:=⟨d2,_,none⟩) d0.out _).trans (((cell_far (p:=⟨d2,_,none⟩) d0.out _).trans (hHeld.2.2.2))))⟩ (fun hHeld=>?_);clear hK K;refine one_ (i:=3) (N:=none) (ba 5 15) rfl rfl (by kernel_rfl) (by decide) (fun K hK=>?_);have C0:o7.cell? ⟨d3,0,none⟩ = some (.int .i64 0):=cz b1 0;have z9:=blk_frozen b1.out 0;have q4:=b3.out;have q5:=d7.out;have q6:=c1.out;have q7:=d1.out;have q8:=b4.out;have q9:=b9.out;have r0:=d9.out;have r6:=e1.out;have C1:o7.cell? ⟨d3,1,none⟩ = some (.int .i64 0):=cz b1 1;have A0:=blk_frozen b1.out 1;have r7:=b3.out;have r8:=d7.out;have r9:=c1.out;have s0:=d1.out;have s1:=b4.out;have s2:=b9.out;have s3:=d9.out;have s4:=e1.out;refine skip_ (w1:=?_) (by rfl) rfl ?_ ?_;rotate_left
 ·go_simp;rfl
 refine hK.out _ _ ⟨((cell_far (p:=⟨d3,_,none⟩) c1.out _).trans (((cell_far (p:=⟨d3,_,none⟩) c1.out _).trans (hHeld.1)))),((cell_far (p:=⟨d3,_,none⟩) c1.out _).trans (((cell_far (p:=⟨d3,_,none⟩) c1.out _).trans (hHeld.2.1)))),((cell_far (p:=⟨d3,_,none⟩) d1.out _).trans (((cell_far (p:=⟨d3,_,none⟩) d1.out _).trans (hHeld.2.2.1)))),((cell_far (p:=⟨d3,_,none⟩) d1.out _).trans (((cell_far (p:=⟨d3,_,none⟩) d1.out _).trans (hHeld.2.2.2))))⟩ (fun hHeld=>?_);clear hK K;refine pr 4 8 31 ?_;refine done_ (by kernel_rfl) ?_;try go_wp2
 refine bodyPost_ret (results_list (rs:=[.cell 6 23,.cell 7 23,.tmp 8]) rfl (by simp) (.cell d2 23 #[.int .i64 e4,.int .i64 e7] (0,0) _ rfl (by refine blk_far ?_ b3.out _;refine blk_far ?_ b3.out _;refine blk_put (cs:=#[.int .i64 e4,.int .i64 0]) ?_ 1 _ rfl;refine blk_put (cs:=#[.int .i64 0,.int .i64 0]) ?_ 0 _ rfl;exact b0.out) Try.underlying23 rfl (by kernel_rfl) (.cell d3 23 #[.int .i64 e5,.int .i64 e8] (0,0) _ rfl (by refine blk_put (cs:=#[.int .i64 e5,.int .i64 0]) ?_ 1 _ rfl;refine blk_put (cs:=#[.int .i64 0,.int .i64 0]) ?_ 0 _ rfl;refine blk_far ?_ b4.out _;refine blk_far ?_ b4.out _;exact b1.out) Try.underlying23 rfl (by kernel_rfl) (.tmp .nil)))) rfl ?_;exact ⟨rfl,bl HB⟩
end Go.Proofs.Ytjohcjfmlhihbaa.G
namespace Go.Proofs.Ytjohcjfmlhihbaa.G
open Go.RowKit Go.Proofs.YtjohcjfmlhihbaaW.PrintWords Go.Proofs.YtjohcjfmlhihbaaW.PrintLast Go.Proofs.YtjohcjfmlhihbaaW.PrintMore
def awakeE (f:Nat) (l:List Va.V):Option Va.V:=match f,l with
 | 20,[.i .i64 (.ofNat 100),.i .i64 (.ofNat 50),.i .i64 (.ofNat 100)]=>some (.t [.a [.i .i64 (.ofNat 25),.i .i64 (.ofNat 1)],.a [.i .i64 (.ofNat 75),.i .i64 (.ofNat 1)],.i .i64 (.ofNat 0)])
 | _,_=>none
theorem awake_garment:shares_Garment.f 60 100 50 100 = some (25,1,75,1,0):=by kernel_rfl
theorem awakeE_ok:Va.ExtOK Try.prog awakeE:=fun {f l v m args} h hl=>by
 unfold awakeE at h
 split at h <;> simp at h
 subst h;left;obtain ⟨r⟩:=args
 have e:r = [.int .i64 100,.int .i64 50,.int .i64 100]:=by
  have h0:Va.RVs m _ r:=hl;clear hl
  cases h0 with
  | cons a h1=>cases h1 with
   | cons b h2=>cases h2 with
    | cons c h3=>cases h3;cases a;cases b;cases c;rfl
 subst e;refine ⟨Try.f20,by kernel_rfl,by kernel_rfl,fun w=>(shares_Garment.calls 60 100 50 100 25 1 75 1 0 w awake_garment).mono fun e w' he=>?_⟩;obtain ⟨rfl,hb⟩:=he;exact ⟨_,rfl,.t (.cons (.a (.cons .i (.cons .i .nil)) (by simp [Va.V.one])) (.cons (.a (.cons .i (.cons .i .nil)) (by simp [Va.V.one])) (.cons .i .nil))),hb⟩
set_option maxRecDepth 1000000 in
theorem awake_run:Va.boolG (Va.callG Try.prog awakeE 40 ⟨.e,0⟩ 22 []) = some true:=by kernel_rfl
set_option maxRecDepth 1000000 in
theorem awake_seen (w:World):Calls Try.prog 22 #[] w fun e w'=>e = .returned (.bool true) ∧ Below w.heap.size w w' :=
 Va.closed_call (d:=40) awakeE_ok (by kernel_rfl) (by kernel_rfl) awake_run (fn:=Try.f22) (by kernel_rfl) (by kernel_rfl) w
def numnahlaw07_awake.f (k:Nat)  : Option (Bool):=some true
theorem numnahlaw07_awake.mono:∀ k,LeO (numnahlaw07_awake.f k ) (numnahlaw07_awake.f (k + 1) ):=fun _=>LeO.refl _
theorem numnahlaw07_awake.calls (k:Nat) (r:Bool) (w:World) (h:numnahlaw07_awake.f k = some r):Calls Try.prog 22 #[] w fun e w'=>e = .returned (.bool r) ∧ Below w.heap.size w w':=by
 cases h;exact awake_seen w
end Go.Proofs.Ytjohcjfmlhihbaa.G
namespace Go.Proofs.Ytjohcjfmlhihbaa.G
open Go.RowKit Go.Proofs.YtjohcjfmlhihbaaW.PrintWords Go.Proofs.YtjohcjfmlhihbaaW.PrintLast Go.Proofs.YtjohcjfmlhihbaaW.PrintMore
set_option maxHeartbeats 8000000
set_option maxRecDepth 100000
attribute [local go_sem] cond_true cond_false fld23_0 fld23_1 fld45_0 fld45_1 fld109_0 fld109_1 fld94_0 fld94_1 max2_int min2_int max_two min_two max_three min_three max_four min_four   -- for this text's walks alone
def cmp_isNaN_int.f (a0:Int):Option (Bool):=some (a0 != a0)
theorem cmp_isNaN_int.calls (a0:Int) (r:Bool) (w:World) (h:cmp_isNaN_int.f a0 = some r) :
  Calls Try.prog 128 #[.int .i64 a0] w fun e w'=>e = .returned (.bool r) ∧ Drawn0 w w':=by
 have H:(some (a0 != a0)) = some r:=h;clear h;obtain rfl:=Option.some.inj H;go_enter Try.func128,Try.ntmps128;go_wp2;go_ret;exact ⟨by first | rfl | (simp;done) | (simp [*];done),by repeat (first | exact Drawn0.refl _ | apply Drawn0.step)⟩
def cmp_Compare_int.f (a0:Int) (a1:Int):Option (Int):=(cmp_isNaN_int.f a0).bind fun b1=>((cmp_isNaN_int.f a1).bind fun b0=>(if b1 = true then (if b0 = true then (some 0) else (some (-1))) else (if b0 = true then (some 1) else (if a0 < a1 then (some (-1)) else (if a0 > a1 then (some 1) else (some 0))))))
theorem cmp_Compare_int.calls (a0:Int) (a1:Int) (r:Int) (w:World) (h:cmp_Compare_int.f a0 a1 = some r) :
  Calls Try.prog 115 #[.int .i64 a0,.int .i64 a1] w fun e w'=>e = .returned (.int .i64 r) ∧ Drawn0 w w':=by
 have H:((cmp_isNaN_int.f a0).bind fun b1=>((cmp_isNaN_int.f a1).bind fun b0=>(if b1 = true then (if b0 = true then (some 0) else (some (-1))) else (if b0 = true then (some 1) else (if a0 < a1 then (some (-1)) else (if a0 > a1 then (some 1) else (some 0))))))) = some r:=h;clear h;replace H:=Option.bind_eq_some_iff.mp H;obtain ⟨b1,b4,H⟩:=H;replace H:((cmp_isNaN_int.f a1).bind fun b0=>(if b1 = true then (if b0 = true then (some 0) else (some (-1))) else (if b0 = true then (some 1) else (if a0 < a1 then (some (-1)) else (if a0 > a1 then (some 1) else (some 0)))))) = some r:=H;have A3:=Aside0.mk b4;clear b4;replace H:=Option.bind_eq_some_iff.mp H;obtain ⟨b0,b5,H⟩:=H;replace H:(if b1 = true then (if b0 = true then (some 0) else (some (-1))) else (if b0 = true then (some 1) else (if a0 < a1 then (some (-1)) else (if a0 > a1 then (some 1) else (some 0))))) = some r:=H;have A4:=Aside0.mk b5;clear b5;by_cases c5:b1 = true
 ·subst c5;have H1:(if b0 = true then (some 0) else (some (-1))) = some r:=by rw [if_pos rfl] at H;exact H
  clear H;have H:=H1;clear H1;by_cases c6:b0 = true
  ·subst c6;have H1:(some 0) = some r:=by rw [if_pos rfl] at H;exact H
   clear H;have H:=H1;clear H1;obtain rfl:=Option.some.inj H;go_enter Try.func115,Try.ntmps115;go_wp2_with (first | ((with_reducible refine gate_callee (f:=128) rfl ?_);refine goesL_ (some 8) rfl rfl Try.func128 (by kernel_rfl) rfl #[.int .i64 a0] rfl (by (try simp only [List.map_toArray,List.map_cons,List.map_nil]);first | done | rfl | (simp only [List.length_drop,List.length_take];rfl)) ?_;(with_reducible refine (cmp_isNaN_int.calls a0 true _ A3.out).mono ?_);rintro e w' ⟨rfl,⟨nd,rfl⟩⟩;refine ⟨_,rfl,?_⟩) | ((with_reducible refine gate_callee (f:=128) rfl ?_);refine goesL_ (some 10) rfl rfl Try.func128 (by kernel_rfl) rfl #[.int .i64 a1] rfl (by (try simp only [List.map_toArray,List.map_cons,List.map_nil]);first | done | rfl | (simp only [List.length_drop,List.length_take];rfl)) ?_;(with_reducible refine (cmp_isNaN_int.calls a1 true _ A4.out).mono ?_);rintro e w' ⟨rfl,⟨nd,rfl⟩⟩;refine ⟨_,rfl,?_⟩));go_ret;exact ⟨by first | rfl | (simp;done) | (simp [*];done),by repeat (first | exact Drawn0.refl _ | apply Drawn0.step)⟩
  replace c6:=Bool.eq_false_iff.mpr c6;subst c6;have H1:(some (-1)) = some r:=by rw [if_neg (show ¬ (false = true) by decide)] at H;exact H
  clear H;have H:=H1;clear H1;obtain rfl:=Option.some.inj H;go_enter Try.func115,Try.ntmps115;go_wp2_with (first | ((with_reducible refine gate_callee (f:=128) rfl ?_);refine goesL_ (some 8) rfl rfl Try.func128 (by kernel_rfl) rfl #[.int .i64 a0] rfl (by (try simp only [List.map_toArray,List.map_cons,List.map_nil]);first | done | rfl | (simp only [List.length_drop,List.length_take];rfl)) ?_;(with_reducible refine (cmp_isNaN_int.calls a0 true _ A3.out).mono ?_);rintro e w' ⟨rfl,⟨nd,rfl⟩⟩;refine ⟨_,rfl,?_⟩) | ((with_reducible refine gate_callee (f:=128) rfl ?_);refine goesL_ (some 10) rfl rfl Try.func128 (by kernel_rfl) rfl #[.int .i64 a1] rfl (by (try simp only [List.map_toArray,List.map_cons,List.map_nil]);first | done | rfl | (simp only [List.length_drop,List.length_take];rfl)) ?_;(with_reducible refine (cmp_isNaN_int.calls a1 false _ A4.out).mono ?_);rintro e w' ⟨rfl,⟨nd,rfl⟩⟩;refine ⟨_,rfl,?_⟩));go_ret;exact ⟨by first | rfl | (simp;done) | (simp [*];done),by repeat (first | exact Drawn0.refl _ | apply Drawn0.step)⟩
 replace c5:=Bool.eq_false_iff.mpr c5;subst c5;have H1:(if b0 = true then (some 1) else (if a0 < a1 then (some (-1)) else (if a0 > a1 then (some 1) else (some 0)))) = some r:=by rw [if_neg (show ¬ (false = true) by decide)] at H;exact H
 clear H;have H:=H1;clear H1;by_cases c7:b0 = true
 ·subst c7;have H1:(some 1) = some r:=by rw [if_pos rfl] at H;exact H
  clear H;have H:=H1;clear H1;obtain rfl:=Option.some.inj H;go_enter Try.func115,Try.ntmps115;go_wp2_with (first | ((with_reducible refine gate_callee (f:=128) rfl ?_);refine goesL_ (some 8) rfl rfl Try.func128 (by kernel_rfl) rfl #[.int .i64 a0] rfl (by (try simp only [List.map_toArray,List.map_cons,List.map_nil]);first | done | rfl | (simp only [List.length_drop,List.length_take];rfl)) ?_;(with_reducible refine (cmp_isNaN_int.calls a0 false _ A3.out).mono ?_);rintro e w' ⟨rfl,⟨nd,rfl⟩⟩;refine ⟨_,rfl,?_⟩) | ((with_reducible refine gate_callee (f:=128) rfl ?_);refine goesL_ (some 10) rfl rfl Try.func128 (by kernel_rfl) rfl #[.int .i64 a1] rfl (by (try simp only [List.map_toArray,List.map_cons,List.map_nil]);first | done | rfl | (simp only [List.length_drop,List.length_take];rfl)) ?_;(with_reducible refine (cmp_isNaN_int.calls a1 true _ A4.out).mono ?_);rintro e w' ⟨rfl,⟨nd,rfl⟩⟩;refine ⟨_,rfl,?_⟩));go_ret;exact ⟨by first | rfl | (simp;done) | (simp [*];done),by repeat (first | exact Drawn0.refl _ | apply Drawn0.step)⟩
 replace c7:=Bool.eq_false_iff.mpr c7;subst c7;have H1:(if a0 < a1 then (some (-1)) else (if a0 > a1 then (some 1) else (some 0))) = some r:=by rw [if_neg (show ¬ (false = true) by decide)] at H;exact H
 clear H;have H:=H1;clear H1;by_cases c8:a0 < a1
 ·rw [if_pos c8] at H;have b2:decide (a0 < a1) = true:=decide_eq_true c8;clear c8;obtain rfl:=Option.some.inj H;go_enter Try.func115,Try.ntmps115;go_wp2_with (first | ((with_reducible refine gate_callee (f:=128) rfl ?_);refine goesL_ (some 8) rfl rfl Try.func128 (by kernel_rfl) rfl #[.int .i64 a0] rfl (by (try simp only [List.map_toArray,List.map_cons,List.map_nil]);first | done | rfl | (simp only [List.length_drop,List.length_take];rfl)) ?_;(with_reducible refine (cmp_isNaN_int.calls a0 false _ A3.out).mono ?_);rintro e w' ⟨rfl,⟨nd,rfl⟩⟩;refine ⟨_,rfl,?_⟩) | ((with_reducible refine gate_callee (f:=128) rfl ?_);refine goesL_ (some 10) rfl rfl Try.func128 (by kernel_rfl) rfl #[.int .i64 a1] rfl (by (try simp only [List.map_toArray,List.map_cons,List.map_nil]);first | done | rfl | (simp only [List.length_drop,List.length_take];rfl)) ?_;(with_reducible refine (cmp_isNaN_int.calls a1 false _ A4.out).mono ?_);rintro e w' ⟨rfl,⟨nd,rfl⟩⟩;refine ⟨_,rfl,?_⟩));go_ret;exact ⟨by first | rfl | (simp;done) | (simp [*];done),by repeat (first | exact Drawn0.refl _ | apply Drawn0.step)⟩
 rw [if_neg c8] at H;have b2:decide (a0 < a1) = false:=decide_eq_false c8;clear c8;by_cases c9:a0 > a1
 ·rw [if_pos c9] at H;have b3:decide (a1 < a0) = true:=decide_eq_true c9;clear c9;obtain rfl:=Option.some.inj H;go_enter Try.func115,Try.ntmps115;go_wp2_with (first | ((with_reducible refine gate_callee (f:=128) rfl ?_);refine goesL_ (some 8) rfl rfl Try.func128 (by kernel_rfl) rfl #[.int .i64 a0] rfl (by (try simp only [List.map_toArray,List.map_cons,List.map_nil]);first | done | rfl | (simp only [List.length_drop,List.length_take];rfl)) ?_;(with_reducible refine (cmp_isNaN_int.calls a0 false _ A3.out).mono ?_);rintro e w' ⟨rfl,⟨nd,rfl⟩⟩;refine ⟨_,rfl,?_⟩) | ((with_reducible refine gate_callee (f:=128) rfl ?_);refine goesL_ (some 10) rfl rfl Try.func128 (by kernel_rfl) rfl #[.int .i64 a1] rfl (by (try simp only [List.map_toArray,List.map_cons,List.map_nil]);first | done | rfl | (simp only [List.length_drop,List.length_take];rfl)) ?_;(with_reducible refine (cmp_isNaN_int.calls a1 false _ A4.out).mono ?_);rintro e w' ⟨rfl,⟨nd,rfl⟩⟩;refine ⟨_,rfl,?_⟩));go_ret;exact ⟨by first | rfl | (simp;done) | (simp [*];done),by repeat (first | exact Drawn0.refl _ | apply Drawn0.step)⟩
 rw [if_neg c9] at H;have b3:decide (a1 < a0) = false:=decide_eq_false c9;clear c9;obtain rfl:=Option.some.inj H;go_enter Try.func115,Try.ntmps115;go_wp2_with (first | ((with_reducible refine gate_callee (f:=128) rfl ?_);refine goesL_ (some 8) rfl rfl Try.func128 (by kernel_rfl) rfl #[.int .i64 a0] rfl (by (try simp only [List.map_toArray,List.map_cons,List.map_nil]);first | done | rfl | (simp only [List.length_drop,List.length_take];rfl)) ?_;(with_reducible refine (cmp_isNaN_int.calls a0 false _ A3.out).mono ?_);rintro e w' ⟨rfl,⟨nd,rfl⟩⟩;refine ⟨_,rfl,?_⟩) | ((with_reducible refine gate_callee (f:=128) rfl ?_);refine goesL_ (some 10) rfl rfl Try.func128 (by kernel_rfl) rfl #[.int .i64 a1] rfl (by (try simp only [List.map_toArray,List.map_cons,List.map_nil]);first | done | rfl | (simp only [List.length_drop,List.length_take];rfl)) ?_;(with_reducible refine (cmp_isNaN_int.calls a1 false _ A4.out).mono ?_);rintro e w' ⟨rfl,⟨nd,rfl⟩⟩;refine ⟨_,rfl,?_⟩));go_ret;exact ⟨by first | rfl | (simp;done) | (simp [*];done),by repeat (first | exact Drawn0.refl _ | apply Drawn0.step)⟩
def shares_compare.f (k:Nat) (b2:Int) (b3:Int) (b6:Int) (b7:Int):Option (Int):=(shares_minus.f k b2 b3 b6 b7).bind fun d0=>((cmp_Compare_int.f d0.1 0).bind fun b8=>(some b8))
theorem shares_compare.mono:∀ a0 a1 a2 a3 k,LeO (shares_compare.f k a0 a1 a2 a3) (shares_compare.f (k + 1) a0 a1 a2 a3):=by
 intro a0 a1 a2 a3 k;unfold shares_compare.f
 repeat' first
   | (with_reducible exact shares_minus.mono _ _ _ _ _)
   | (with_reducible exact LeO.refl _)
   | (with_reducible exact LeO.none _)
   | (with_reducible refine LeO.ite ?_ ?_)
   | (with_reducible refine LeO.bind ?_ (fun _=>?_))
   | exact shares_minus.mono _ _ _ _ _
   | exact LeO.none _
   | refine LeO.ite ?_ ?_
   | refine LeO.bind ?_ (fun _=>?_)
theorem shares_compare.calls (k:Nat) (b2:Int) (b3:Int) (b6:Int) (b7:Int) (r:Int) (w:World) (h:shares_compare.f k b2 b3 b6 b7 = some r) :
  Calls Try.prog 85 #[.agg #[.int .i64 b2,.int .i64 b3],.agg #[.int .i64 b6,.int .i64 b7]] w fun e w'=>e = .returned (.int .i64 r) ∧ Below w.heap.size w w':=by
 have h2:=Try.underlying23;have HB:=Aside0.mk (Below.refl w.heap.size w);have H:((shares_minus.f k b2 b3 b6 b7).bind fun d0=>((cmp_Compare_int.f d0.1 0).bind fun b8=>(some b8))) = some r:=h;clear h;replace H:=Option.bind_eq_some_iff.mp H;obtain ⟨⟨d1,d7⟩,A30,H⟩:=H;replace H:((cmp_Compare_int.f d1 0).bind fun b8=>(some b8)) = some r:=H;have A3:=Aside0.mk A30;clear A30;replace H:=Option.bind_eq_some_iff.mp H;obtain ⟨b8,e6,H⟩:=H;replace H:(some b8) = some r:=H;have A4:=Aside0.mk e6;clear e6;obtain rfl:=Option.some.inj H;go_enter Try.func85,Try.ntmps85;go_wp2_with (first | ((with_reducible refine gate_dst (N:=2) rfl ?_);refine box_event ?hg (N:=2) ?hd (cs:=#[.int .i64 b2,.int .i64 b3]) (t:=23) ?hr ?_;(case hd=>rfl);(case hg=>rfl);(case hr=>first | (go_simp;done) | (go_simp;rfl));intro b1 hg w5 hbox hb;have d2:=Aside0.mk (below_step (by repeat (first | (with_reducible first | exact HB.out | apply below_alloc | apply pw_below_drewN | apply below_drew1) | exact HB.out)) hb);have d3:=Aside0.mk (hbox);have d4:=Aside0.mk ((by rw [hg];exact (below_size (by repeat (first | (with_reducible first | exact HB.out | apply below_alloc | apply pw_below_drewN | apply below_drew1) | exact HB.out))):w.heap.size ≤ b1));have d6:=Aside0.mk ((by rw [hg];exact (below_size (by repeat (first | (with_reducible first | exact HB.out | apply below_alloc | apply pw_below_drewN | apply below_drew1) | exact HB.out))):w.heap.size ≤ b1));clear HB;have HB:=d2;have b0:=d3;have e7:=d4;have b9:=d6;clear d2 d3 d4 d6;clear hb hbox hg) | ((with_reducible refine gate_dst (N:=3) rfl ?_);refine box_event ?hg (N:=3) ?hd (cs:=#[.int .i64 b6,.int .i64 b7]) (t:=23) ?hr ?_;(case hd=>rfl);(case hg=>rfl);(case hr=>first | (go_simp;done) | (go_simp;rfl));intro b4 hg w6 hbox hb;have d2:=Aside0.mk (blk_below (g:=b1) (o:=.cells #[.int .i64 b2,.int .i64 b3] 23 (0,0)) (by (with_reducible repeat (first | refine blk_drewN ?_ _ | refine blk_drew ?_ | refine blk_alloc ?_ _));exact b0.out) hb);have d3:=Aside0.mk (below_step (by repeat (first | (with_reducible first | exact HB.out | apply below_alloc | apply pw_below_drewN | apply below_drew1 | refine below_set ?_ b9.out) | exact HB.out)) hb);have d4:=Aside0.mk (hbox);have d6:=Aside0.mk ((by rw [hg];exact (below_size (by repeat (first | (with_reducible first | exact HB.out | apply below_alloc | apply pw_below_drewN | apply below_drew1 | refine below_set ?_ b9.out) | exact HB.out))):w.heap.size ≤ b4));have e8:=Aside0.mk ((by rw [hg];exact (below_size (by repeat (first | (with_reducible first | exact HB.out | apply below_alloc | apply pw_below_drewN | apply below_drew1 | refine below_set ?_ b9.out) | exact HB.out))):w.heap.size ≤ b4));have e9:=Aside0.mk ((by rw [hg];exact Nat.ne_of_lt (blk_lt (g:=b1) (o:=.cells #[.int .i64 b2,.int .i64 b3] 23 (0,0)) (by (with_reducible repeat (first | refine blk_drewN ?_ _ | refine blk_drew ?_ | refine blk_alloc ?_ _));exact b0.out)):b1 ≠ b4));have h0:=Aside0.mk ((by rw [hg];exact Nat.ne_of_gt (blk_lt (g:=b1) (o:=.cells #[.int .i64 b2,.int .i64 b3] 23 (0,0)) (by (with_reducible repeat (first | refine blk_drewN ?_ _ | refine blk_drew ?_ | refine blk_alloc ?_ _));exact b0.out)):b4 ≠ b1));clear b0;clear HB;have b0:=d2;have HB:=d3;have b5:=d4;have h1:=d6;have d5:=e8;have c0:=e9;have c1:=h0;clear d2 d3 d4 d6 e8 e9 h0;clear hb hbox hg;have h3:=c0.out;have h4:=c1.out;have d8:w6.cell? ⟨b1,0,none⟩ = some (.int .i64 b2):=(blk_cell b0.out 0).trans rfl;have d9:w6.cell? ⟨b1,1,none⟩ = some (.int .i64 b3):=(blk_cell b0.out 1).trans rfl;have e0:=blk_frozen b0.out 0;have e1:=blk_frozen b0.out 1;have e2:w6.cell? ⟨b4,0,none⟩ = some (.int .i64 b6):=(blk_cell b5.out 0).trans rfl;have e3:w6.cell? ⟨b4,1,none⟩ = some (.int .i64 b7):=(blk_cell b5.out 1).trans rfl;have e4:=blk_frozen b5.out 0;have e5:=blk_frozen b5.out 1) | ((with_reducible refine gate_callee (f:=95) rfl ?_);refine goesL_ (some 7) rfl rfl Try.func95 (by kernel_rfl) rfl #[.agg #[.int .i64 b2,.int .i64 b3],.agg #[.int .i64 b6,.int .i64 b7]] rfl (by (try simp only [List.map_toArray,List.map_cons,List.map_nil]);first | done | rfl | (simp only [List.length_drop,List.length_take];rfl)) ?_;(with_reducible refine (shares_minus.calls k b2 b3 b6 b7 d1 d7 _ A3.out).mono ?_);rintro e h5 ⟨rfl,hb⟩;refine ⟨_,rfl,?_⟩;have d2:=Aside0.mk (blk_below (g:=b1) (o:=.cells #[.int .i64 b2,.int .i64 b3] 23 (0,0)) (by (with_reducible repeat (first | refine blk_drewN ?_ _ | refine blk_drew ?_ | refine blk_alloc ?_ _));exact b0.out) hb);have d3:=Aside0.mk (blk_below (g:=b4) (o:=.cells #[.int .i64 b6,.int .i64 b7] 23 (0,0)) (by (with_reducible repeat (first | refine blk_drewN ?_ _ | refine blk_drew ?_ | refine blk_alloc ?_ _));exact b5.out) hb);have d4:=Aside0.mk (below_step (by repeat (first | (with_reducible first | exact HB.out | apply below_alloc | apply pw_below_drewN | apply below_drew1 | refine below_set ?_ b9.out | refine below_set ?_ d5.out) | exact HB.out)) hb);clear b0;clear b5;clear HB;have b0:=d2;have b5:=d3;have HB:=d4;clear d2 d3 d4;(try clear hb)) | ((with_reducible refine gate_callee (f:=115) rfl ?_);refine goesL_ (some 9) rfl rfl Try.func115 (by kernel_rfl) rfl #[.int .i64 d1,.int .i64 0] rfl (by (try simp only [List.map_toArray,List.map_cons,List.map_nil]);first | done | rfl | (simp only [List.length_drop,List.length_take];rfl)) ?_;(with_reducible refine (cmp_Compare_int.calls d1 0 b8 _ A4.out).mono ?_);rintro e w' ⟨rfl,⟨nd,rfl⟩⟩;refine ⟨_,rfl,?_⟩));go_ret;exact ⟨by first | rfl | (simp [errW_none,errW_some] <;> rfl) | (simp [*,errW_none,errW_some] <;> rfl),by repeat (first | (with_reducible first | exact HB.out | apply below_alloc | apply pw_below_drewN | apply below_drew1 | refine below_set ?_ b9.out | refine below_set ?_ d5.out) | exact HB.out)⟩
def shares_times.f (k:Nat) (b2:Int) (b3:Int) (a1:Int):Option (Int × Int):=(shares_frac.f k (wrap64 (b2 * a1)) b3).bind fun b6=>(some (b6.1,b6.2))
theorem shares_times.mono:∀ a0 a1 a2 k,LeO (shares_times.f k a0 a1 a2) (shares_times.f (k + 1) a0 a1 a2):=by
 intro a0 a1 a2 k;unfold shares_times.f
 repeat' first
   | (with_reducible exact shares_frac.mono _ _ _)
   | (with_reducible exact LeO.refl _)
   | (with_reducible exact LeO.none _)
   | (with_reducible refine LeO.ite ?_ ?_)
   | (with_reducible refine LeO.bind ?_ (fun _=>?_))
   | exact shares_frac.mono _ _ _
   | exact LeO.none _
   | refine LeO.ite ?_ ?_
   | refine LeO.bind ?_ (fun _=>?_)
theorem shares_times.calls (k:Nat) (b2:Int) (b3:Int) (a1:Int) (r1:Int) (r2:Int) (w:World) (h:shares_times.f k b2 b3 a1 = some (r1,r2)) :
  Calls Try.prog 106 #[.agg #[.int .i64 b2,.int .i64 b3],.int .i64 a1] w fun e w'=>e = .returned (.agg #[.int .i64 r1,.int .i64 r2]) ∧ Below w.heap.size w w':=by
 have e8:=Try.underlying23;have HB:=Aside0.mk (Below.refl w.heap.size w);have H:((shares_frac.f k (wrap64 (b2 * a1)) b3).bind fun b6=>(some (b6.1,b6.2))) = some (r1,r2):=h;clear h;replace H:=Option.bind_eq_some_iff.mp H;obtain ⟨⟨c0,d3⟩,A30,H⟩:=H;replace H:(some (c0,d3)) = some (r1,r2):=H;have A3:=Aside0.mk A30;clear A30;simp only [Option.some.injEq,Prod.mk.injEq] at H;obtain ⟨rfl,rfl⟩:=H;go_enter Try.func106,Try.ntmps106;go_wp2_with (first | ((with_reducible refine gate_dst (N:=2) rfl ?_);refine box_event ?hg (N:=2) ?hd (cs:=#[.int .i64 b2,.int .i64 b3]) (t:=23) ?hr ?_;(case hd=>rfl);(case hg=>rfl);(case hr=>first | (go_simp;done) | (go_simp;rfl));intro b1 hg w4 hbox hb;have c1:=Aside0.mk (below_step (by repeat (first | (with_reducible first | exact HB.out | apply below_alloc | apply pw_below_drewN | apply below_drew1) | exact HB.out)) hb);have d0:=Aside0.mk (hbox);have d1:=Aside0.mk ((by rw [hg];exact (below_size (by repeat (first | (with_reducible first | exact HB.out | apply below_alloc | apply pw_below_drewN | apply below_drew1) | exact HB.out))):w.heap.size ≤ b1));have d4:=Aside0.mk ((by rw [hg];exact (below_size (by repeat (first | (with_reducible first | exact HB.out | apply below_alloc | apply pw_below_drewN | apply below_drew1) | exact HB.out))):w.heap.size ≤ b1));clear HB;have HB:=c1;have b0:=d0;have e3:=d1;have b7:=d4;clear c1 d0 d1 d4;clear hb hbox hg) | ((with_reducible refine gate_dst (N:=4) rfl ?_);refine box_event ?hg (N:=4) ?hd (cs:=#[.int .i64 0,.int .i64 0]) (t:=23) ?hr ?_;(case hd=>rfl);(case hg=>rfl);(case hr=>first | (go_simp;done) | (go_simp;rfl));intro b4 hg w5 hbox hb;have c1:=Aside0.mk (blk_below (g:=b1) (o:=.cells #[.int .i64 b2,.int .i64 b3] 23 (0,0)) (by (with_reducible repeat (first | refine blk_drewN ?_ _ | refine blk_drew ?_ | refine blk_alloc ?_ _));exact b0.out) hb);have d0:=Aside0.mk (below_step (by repeat (first | (with_reducible first | exact HB.out | apply below_alloc | apply pw_below_drewN | apply below_drew1 | refine below_set ?_ b7.out) | exact HB.out)) hb);have d1:=Aside0.mk (hbox);have d4:=Aside0.mk ((by rw [hg];exact (below_size (by repeat (first | (with_reducible first | exact HB.out | apply below_alloc | apply pw_below_drewN | apply below_drew1 | refine below_set ?_ b7.out) | exact HB.out))):w.heap.size ≤ b4));have e4:=Aside0.mk ((by rw [hg];exact (below_size (by repeat (first | (with_reducible first | exact HB.out | apply below_alloc | apply pw_below_drewN | apply below_drew1 | refine below_set ?_ b7.out) | exact HB.out))):w.heap.size ≤ b4));have e5:=Aside0.mk ((by rw [hg];exact Nat.ne_of_lt (blk_lt (g:=b1) (o:=.cells #[.int .i64 b2,.int .i64 b3] 23 (0,0)) (by (with_reducible repeat (first | refine blk_drewN ?_ _ | refine blk_drew ?_ | refine blk_alloc ?_ _));exact b0.out)):b1 ≠ b4));have e6:=Aside0.mk ((by rw [hg];exact Nat.ne_of_gt (blk_lt (g:=b1) (o:=.cells #[.int .i64 b2,.int .i64 b3] 23 (0,0)) (by (with_reducible repeat (first | refine blk_drewN ?_ _ | refine blk_drew ?_ | refine blk_alloc ?_ _));exact b0.out)):b4 ≠ b1));clear b0;clear HB;have b0:=c1;have HB:=d0;have b5:=d1;have e7:=d4;have d2:=e4;have b8:=e5;have b9:=e6;clear c1 d0 d1 d4 e4 e5 e6;clear hb hbox hg;have e9:=b8.out;have h0:=b9.out;have d5:w5.cell? ⟨b1,0,none⟩ = some (.int .i64 b2):=(blk_cell b0.out 0).trans rfl;have d6:w5.cell? ⟨b1,1,none⟩ = some (.int .i64 b3):=(blk_cell b0.out 1).trans rfl;have d7:=blk_frozen b0.out 0;have d8:=blk_frozen b0.out 1) | ((with_reducible refine gate_callee (f:=117) rfl ?_);refine goesL_ (some 11) rfl rfl Try.func117 (by kernel_rfl) rfl #[.int .i64 (wrap64 (b2 * a1)),.int .i64 b3] rfl (by (try simp only [List.map_toArray,List.map_cons,List.map_nil]);first | done | rfl | (simp only [List.length_drop,List.length_take];rfl)) ?_;(with_reducible refine (shares_frac.calls k (wrap64 (b2 * a1)) b3 c0 d3 _ A3.out).mono ?_);rintro e w8 ⟨rfl,hb⟩;refine ⟨_,rfl,?_⟩;have c1:=Aside0.mk (blk_below (g:=b1) (o:=.cells #[.int .i64 b2,.int .i64 b3] 23 (0,0)) (by (with_reducible repeat (first | refine blk_drewN ?_ _ | refine blk_drew ?_ | refine blk_alloc ?_ _));exact b0.out) hb);have d0:=Aside0.mk (blk_below (g:=b4) (o:=.cells #[.int .i64 0,.int .i64 0] 23 (0,0)) (by (with_reducible repeat (first | refine blk_drewN ?_ _ | refine blk_drew ?_ | refine blk_alloc ?_ _));exact b5.out) hb);have d1:=Aside0.mk (below_step (by repeat (first | (with_reducible first | exact HB.out | apply below_alloc | apply pw_below_drewN | apply below_drew1 | refine below_set ?_ b7.out | refine below_set ?_ d2.out) | exact HB.out)) hb);clear b0;clear b5;clear HB;have b0:=c1;have b5:=d0;have HB:=d1;clear c1 d0 d1;(try clear hb);have d9:w8.cell? ⟨b4,0,none⟩ = some (.int .i64 0):=(blk_cell b5.out 0).trans rfl;have e0:w8.cell? ⟨b4,1,none⟩ = some (.int .i64 0):=(blk_cell b5.out 1).trans rfl;have e1:=blk_frozen b5.out 0;have e2:=blk_frozen b5.out 1));refine bodyPost_ret (results_cell_row rfl _ _ b4 23 #[.int .i64 c0,.int .i64 d3] (0,0) _ rfl (by (with_reducible repeat (first | refine blk_drewN ?_ _ | refine blk_drew ?_ | refine blk_alloc ?_ _));refine blk_put (cs:=#[.int .i64 c0,.int .i64 0]) ?_ 1 _ rfl;(with_reducible repeat (first | refine blk_drewN ?_ _ | refine blk_drew ?_ | refine blk_alloc ?_ _));refine blk_put (cs:=#[.int .i64 0,.int .i64 0]) ?_ 0 _ rfl;(with_reducible repeat (first | refine blk_drewN ?_ _ | refine blk_drew ?_ | refine blk_alloc ?_ _));exact b5.out) Try.underlying23 rfl (by kernel_rfl)) rfl ?_;exact ⟨by first | rfl | (simp [errW_none,errW_some] <;> rfl) | (simp [*,errW_none,errW_some] <;> rfl),by repeat (first | (with_reducible first | exact HB.out | apply below_alloc | apply pw_below_drewN | apply below_drew1 | refine below_set ?_ b7.out | refine below_set ?_ d2.out) | exact HB.out)⟩
def shares_isValid.f (k:Nat) (b0:Int) (b1:Int):Option (Bool):=if b1 ≥ 1 then ((shares_gcd.f k (mx b0 (wrap64 (-b0))) b1).bind fun b4=>(some (b4 == 1))) else (some false)
theorem shares_isValid.mono:∀ a0 a1 k,LeO (shares_isValid.f k a0 a1) (shares_isValid.f (k + 1) a0 a1):=by
 intro a0 a1 k;unfold shares_isValid.f
 repeat' first
   | (with_reducible exact shares_gcd.mono _ _ _)
   | (with_reducible exact LeO.refl _)
   | (with_reducible exact LeO.none _)
   | (with_reducible refine LeO.ite ?_ ?_)
   | (with_reducible refine LeO.bind ?_ (fun _=>?_))
   | exact shares_gcd.mono _ _ _
   | exact LeO.none _
   | refine LeO.ite ?_ ?_
   | refine LeO.bind ?_ (fun _=>?_)
theorem shares_isValid.calls (k:Nat) (b0:Int) (b1:Int) (r:Bool) (w:World) (h:shares_isValid.f k b0 b1 = some r) :
  Calls Try.prog 112 #[.agg #[.int .i64 b0,.int .i64 b1]] w fun e w'=>e = .returned (.bool r) ∧ Below w.heap.size w w':=by
 have e2:=Try.underlying23;have HB:=Aside0.mk (Below.refl w.heap.size w);have H:(if b1 ≥ 1 then ((shares_gcd.f k (mx b0 (wrap64 (-b0))) b1).bind fun b4=>(some (b4 == 1))) else (some false)) = some r:=h;clear h;by_cases c2:b1 ≥ 1
 case neg =>
  rw [if_neg c2] at H;have d0:decide (1 ≤ b1) = false:=decide_eq_false c2;clear c2;obtain rfl:=Option.some.inj H;go_enter Try.func112,Try.ntmps112;go_wp2_with (first | ((with_reducible refine gate_dst (N:=1) rfl ?_);(try (refine gate_guard (by rfl) ?_;dsimp only));refine box_event ?hg (N:=1) ?hd (cs:=#[.int .i64 b0,.int .i64 b1]) (t:=23) ?hr ?_;(case hd=>rfl);(case hg=>rfl);(case hr=>first | (go_simp;done) | (go_simp;rfl));intro b2 hg w7 hbox hb;have b7:=Aside0.mk (below_step (by repeat (first | (with_reducible first | exact HB.out | apply below_alloc | apply pw_below_drewN | apply below_drew1) | exact HB.out)) hb);have b8:=Aside0.mk (hbox);have b9:=Aside0.mk ((by rw [hg];exact (below_size (by repeat (first | (with_reducible first | exact HB.out | apply below_alloc | apply pw_below_drewN | apply below_drew1) | exact HB.out))):w.heap.size ≤ b2));have c0:=Aside0.mk ((by rw [hg];exact (below_size (by repeat (first | (with_reducible first | exact HB.out | apply below_alloc | apply pw_below_drewN | apply below_drew1) | exact HB.out))):w.heap.size ≤ b2));clear HB;have HB:=b7;have b3:=b8;have c1:=b9;have b5:=c0;clear b7 b8 b9 c0;clear hb hbox hg;have d1:w7.cell? ⟨b2,0,none⟩ = some (.int .i64 b0):=(blk_cell b3.out 0).trans rfl;have d2:w7.cell? ⟨b2,1,none⟩ = some (.int .i64 b1):=(blk_cell b3.out 1).trans rfl;have d3:=blk_frozen b3.out 0;have d4:=blk_frozen b3.out 1));go_ret;exact ⟨by first | rfl | (simp [errW_none,errW_some] <;> rfl) | (simp [*,errW_none,errW_some] <;> rfl),by repeat (first | (with_reducible first | exact HB.out | apply below_alloc | apply pw_below_drewN | apply below_drew1 | refine below_set ?_ b5.out) | exact HB.out)⟩
 rw [if_pos c2] at H;have d0:decide (1 ≤ b1) = true:=decide_eq_true c2;clear c2;obtain ⟨d5,b6⟩:∃ j_:Int,(mx b0 (wrap64 (-b0))) = j_:=⟨_,rfl⟩
 replace H:((shares_gcd.f k (d5) b1).bind fun b4=>(some (b4 == 1))) = some r:=by first | (rw [b6] at H;exact H) | (simp only [b6] at H ⊢;exact H)
 have e0:(if b0 < (wrap64 (-b0)) then (wrap64 (-b0)) else b0) = d5:=b6;replace H:=Option.bind_eq_some_iff.mp H;obtain ⟨b4,e1,H⟩:=H;replace H:(some (b4 == 1)) = some r:=H;have A4:=Aside0.mk e1;clear e1;obtain rfl:=Option.some.inj H;go_enter Try.func112,Try.ntmps112;go_wp2_with (first | ((with_reducible refine gate_dst (N:=1) rfl ?_);(try (refine gate_guard (by rfl) ?_;dsimp only));refine box_event ?hg (N:=1) ?hd (cs:=#[.int .i64 b0,.int .i64 b1]) (t:=23) ?hr ?_;(case hd=>rfl);(case hg=>rfl);(case hr=>first | (go_simp;done) | (go_simp;rfl));intro b2 hg w5 hbox hb;have b7:=Aside0.mk (below_step (by repeat (first | (with_reducible first | exact HB.out | apply below_alloc | apply pw_below_drewN | apply below_drew1) | exact HB.out)) hb);have b8:=Aside0.mk (hbox);have b9:=Aside0.mk ((by rw [hg];exact (below_size (by repeat (first | (with_reducible first | exact HB.out | apply below_alloc | apply pw_below_drewN | apply below_drew1) | exact HB.out))):w.heap.size ≤ b2));have c0:=Aside0.mk ((by rw [hg];exact (below_size (by repeat (first | (with_reducible first | exact HB.out | apply below_alloc | apply pw_below_drewN | apply below_drew1) | exact HB.out))):w.heap.size ≤ b2));clear HB;have HB:=b7;have b3:=b8;have c1:=b9;have b5:=c0;clear b7 b8 b9 c0;clear hb hbox hg;have d6:w5.cell? ⟨b2,0,none⟩ = some (.int .i64 b0):=(blk_cell b3.out 0).trans rfl;have d7:w5.cell? ⟨b2,1,none⟩ = some (.int .i64 b1):=(blk_cell b3.out 1).trans rfl;have d8:=blk_frozen b3.out 0;have d9:=blk_frozen b3.out 1) | (go_at_call 116;(with_reducible refine (shares_gcd.calls k d5 b1 b4 _ A4.out).mono ?_);rintro e w' ⟨rfl,⟨nd,rfl⟩⟩));go_ret;exact ⟨by first | rfl | (simp [errW_none,errW_some] <;> rfl) | (simp only [← b6];first | rfl | (simp [errW_none,errW_some] <;> rfl)) | (simp [*,errW_none,errW_some] <;> rfl),by repeat (first | (with_reducible first | exact HB.out | apply below_alloc | apply pw_below_drewN | apply below_drew1 | refine below_set ?_ b5.out) | exact HB.out)⟩
def slices_Index_int_int.l0:Nat → List Int → Int → Int → Int → Option (Int)
 | 0,_,_,_,_=>none
 | k + 1,x0,x1,x7,x8=>if x8 < x7 then (if 0 ≤ x8 then (if x8 < (x0.length:Int) then (if x1 = (rd x0 x8) then (some x8) else (slices_Index_int_int.l0 k x0 x1 x7 (wrap64 (x8 + 1)))) else (none)) else (none)) else (some (-1))
def slices_Index_int_int.f (k:Nat) (l0:List Int) (a1:Int):Option (Int):=slices_Index_int_int.l0 k l0 a1 (l0.length:Int) 0
theorem slices_Index_int_int.mono_l:∀ k,(∀ y0 y1 y2 y3,LeO (slices_Index_int_int.l0 k y0 y1 y2 y3) (slices_Index_int_int.l0 (k + 1) y0 y1 y2 y3))
 | 0=>fun _ _ _ _ r h=>by simp [slices_Index_int_int.l0] at h
 | k + 1=>by
  have b5:=slices_Index_int_int.mono_l k;intro y0 y1 y2 y3;unfold slices_Index_int_int.l0
  repeat' first
  | (with_reducible exact b5 _ _ _ _)
  | (with_reducible exact LeO.refl _)
  | (with_reducible exact LeO.none _)
  | (with_reducible refine LeO.ite ?_ ?_)
  | (with_reducible refine LeO.bind ?_ (fun _=>?_))
  | exact b5 _ _ _ _
  | exact LeO.none _
  | refine LeO.ite ?_ ?_
  | refine LeO.bind ?_ (fun _=>?_)
theorem slices_Index_int_int.mono:∀ a0 a1 k,LeO (slices_Index_int_int.f k a0 a1) (slices_Index_int_int.f (k + 1) a0 a1):=by
 intro a0 a1 k;have b5:=slices_Index_int_int.mono_l k;unfold slices_Index_int_int.f
 repeat' first
   | (with_reducible exact b5 _ _ _ _)
   | (with_reducible exact LeO.refl _)
   | (with_reducible exact LeO.none _)
   | (with_reducible refine LeO.ite ?_ ?_)
   | (with_reducible refine LeO.bind ?_ (fun _=>?_))
   | exact b5 _ _ _ _
   | exact LeO.none _
   | refine LeO.ite ?_ ?_
   | refine LeO.bind ?_ (fun _=>?_)
theorem slices_Index_int_int.calls (k:Nat) (A0:Option Addr) (c0:Nat) (l0:List Int) (a1:Int) (r:Int) (w:World) (d0:Kd.C (Kd.int .i64) w A0 l0.length l0) (d1:l0.length ≤ c0) (h:slices_Index_int_int.f k l0 a1 = some r) :
  Calls Try.prog 131 #[.slice A0 l0.length c0,.int .i64 a1] w fun e w'=>e = .returned (.int .i64 r) ∧ Drawn0 w w':=by
 have d2:=Aside0.mk d0;have d6:=Aside0.mk d1;clear d0 d1;have H:(slices_Index_int_int.l0 k l0 a1 (l0.length:Int) 0) = some r:=h;clear h;have H':=Aside0.mk H;clear H;go_enter Try.func131,Try.ntmps131;go_wp2;go_loopg [8] k (fun kq v8 w'=>∃ (b0:Int),v8 = .int .i64 b0 ∧ Aside0 (slices_Index_int_int.l0 kq l0 a1 (l0.length:Int) b0 = some r) ∧ Aside0 (kq ≤ k) ∧ Drawn0 w w')
 case atStart=>exact ⟨(0),(by first | rfl | (simp;done) | (simp [*];done)),H',⟨Nat.le_refl _⟩,by repeat (first | exact Drawn0.refl _ | apply Drawn0.step)⟩
 case round =>
  clear H';try clear c1
  try clear p2
  obtain ⟨b0,rfl,HA,d3,⟨m1,rfl⟩⟩:=hrel
  cases gk with
  | zero=>exact absurd HA.out (by simp [slices_Index_int_int.l0])
  | succ k1 =>
   have H:=HA.out;clear HA;simp only [slices_Index_int_int.l0] at H;by_cases c3:b0 < (l0.length:Int)
   case neg =>
    rw [if_neg c3] at H;have b7:decide (b0 < (l0.length:Int)) = false:=decide_eq_false c3;clear c3;obtain rfl:=Option.some.inj H;go_wp2;go_ret;exact ⟨by first | rfl | (simp;done) | (simp [*];done),by repeat (first | exact Drawn0.refl _ | apply Drawn0.step)⟩
   rw [if_pos c3] at H;have b7:decide (b0 < (l0.length:Int)) = true:=decide_eq_true c3;clear c3;by_cases c4:0 ≤ b0
   case neg =>
    rw [if_neg c4] at H;exact absurd H (by simp)
   rw [if_pos c4] at H;have d4:decide (0 ≤ b0) = true:=decide_eq_true c4;clear c4;by_cases c5:b0 < (l0.length:Int)
   case neg =>
    rw [if_neg c5] at H;exact absurd H (by simp)
   rw [if_pos c5] at H;have d5:decide (b0 < (l0.length:Int)) = true:=decide_eq_true c5;clear c5;by_cases c6:a1 = (rd l0 b0)
   ·rw [if_pos c6] at H;have b8:(a1 == (rd l0 b0)) = true:=beq_iff_eq.mpr c6;have b9:(a1 != (rd l0 b0)) = false:=bne_eq_false_iff_eq.mpr c6;clear c6;obtain rfl:=Option.some.inj H;have b1:0 ≤ (b0:Int):=of_decide_eq_true (by first | (with_reducible assumption) | assumption);have b2:b0 < (l0.length:Int):=of_decide_eq_true (by first | (with_reducible assumption) | assumption);obtain ⟨b6,b4,b3⟩:=Kd.at_int d2.out b0 b1 b2
    cases b4;replace b1:=eq_true b1;replace b2:=eq_true b2;go_wp2;go_ret;exact ⟨by first | rfl | (simp;done) | (simp [*];done),by repeat (first | exact Drawn0.refl _ | apply Drawn0.step)⟩
   rw [if_neg c6] at H;have b8:(a1 == (rd l0 b0)) = false:=beq_eq_false_iff_ne.mpr c6;have b9:(a1 != (rd l0 b0)) = true:=bne_iff_ne.mpr c6;have H':=Aside0.mk H;clear H;have b1:0 ≤ (b0:Int):=of_decide_eq_true (by first | (with_reducible assumption) | assumption);have b2:b0 < (l0.length:Int):=of_decide_eq_true (by first | (with_reducible assumption) | assumption);obtain ⟨b6,b4,b3⟩:=Kd.at_int d2.out b0 b1 b2
   cases b4;replace b1:=eq_true b1;replace b2:=eq_true b2;go_wp2;go_roundg k1
   case measure=>have:=d3.out;omega
   case rel=>exact ⟨(wrap64 (b0 + 1)),(by first | rfl | (simp;done) | (simp [*];done)),H',⟨by have:=d3.out;omega⟩,by repeat (first | exact Drawn0.refl _ | apply Drawn0.step)⟩
def slices_Contains_int_int.f (k:Nat) (l0:List Int) (a1:Int):Option (Bool):=(slices_Index_int_int.f k l0 a1).bind fun b0=>(some (decide (b0 ≥ 0)))
theorem slices_Contains_int_int.mono:∀ a0 a1 k,LeO (slices_Contains_int_int.f k a0 a1) (slices_Contains_int_int.f (k + 1) a0 a1):=by
 intro a0 a1 k;unfold slices_Contains_int_int.f
 repeat' first
   | (with_reducible exact slices_Index_int_int.mono _ _ _)
   | (with_reducible exact LeO.refl _)
   | (with_reducible exact LeO.none _)
   | (with_reducible refine LeO.ite ?_ ?_)
   | (with_reducible refine LeO.bind ?_ (fun _=>?_))
   | exact slices_Index_int_int.mono _ _ _
   | exact LeO.none _
   | refine LeO.ite ?_ ?_
   | refine LeO.bind ?_ (fun _=>?_)
theorem slices_Contains_int_int.calls (k:Nat) (A0:Option Addr) (c0:Nat) (l0:List Int) (a1:Int) (r:Bool) (w:World) (b1:Kd.C (Kd.int .i64) w A0 l0.length l0) (b2:l0.length ≤ c0) (h:slices_Contains_int_int.f k l0 a1 = some r) :
  Calls Try.prog 124 #[.slice A0 l0.length c0,.int .i64 a1] w fun e w'=>e = .returned (.bool r) ∧ Drawn0 w w':=by
 have b4:=Aside0.mk b1;have b5:=Aside0.mk b2;clear b1 b2;have H:((slices_Index_int_int.f k l0 a1).bind fun b0=>(some (decide (b0 ≥ 0)))) = some r:=h;clear h;replace H:=Option.bind_eq_some_iff.mp H;obtain ⟨b0,b3,H⟩:=H;replace H:(some (decide (b0 ≥ 0))) = some r:=H;have A3:=Aside0.mk b3;clear b3;obtain rfl:=Option.some.inj H;go_enter Try.func124,Try.ntmps124;go_wp2_with (first | ((with_reducible refine gate_callee (f:=131) rfl ?_);refine goesL_ (some 7) rfl rfl Try.func131 (by kernel_rfl) rfl #[.slice A0 l0.length c0,.int .i64 a1] rfl (by (try simp only [List.map_toArray,List.map_cons,List.map_nil]);first | done | rfl | (simp only [List.length_drop,List.length_take];rfl)) ?_;(with_reducible refine (slices_Index_int_int.calls k _ _ l0 a1 b0 _ ?side1 ?side2 A3.out).mono ?_);(case side1=>repeat (first | exact b4.out | (with_reducible refine Kd.C_alloc ?_ _) | (with_reducible refine Kd.C_drewN ?_ _) | (with_reducible refine Kd.C_drew ?_)));(case side2=>exact b5.out);rintro e w' ⟨rfl,⟨nd,rfl⟩⟩;refine ⟨_,rfl,?_⟩));go_ret;exact ⟨by first | rfl | (simp;done) | (simp [*];done),by repeat (first | exact Drawn0.refl _ | apply Drawn0.step)⟩
def shares_net_has.f (k:Nat) (b3:List Int) (b0:List (S45)) (a1:Int) (a2:Int):Option (Bool):=if 0 ≤ a1 then (if a1 < (b0.length:Int) then ((slices_Contains_int_int.f k ((rd_T45 b0 a1).f1) a2).bind fun b8=>(some b8)) else (none)) else (none)
theorem shares_net_has.mono:∀ a0 a1 a2 a3 k,LeO (shares_net_has.f k a0 a1 a2 a3) (shares_net_has.f (k + 1) a0 a1 a2 a3):=by
 intro a0 a1 a2 a3 k;unfold shares_net_has.f
 repeat' first
   | (with_reducible exact slices_Contains_int_int.mono _ _ _)
   | (with_reducible exact LeO.refl _)
   | (with_reducible exact LeO.none _)
   | (with_reducible refine LeO.ite ?_ ?_)
   | (with_reducible refine LeO.bind ?_ (fun _=>?_))
   | exact slices_Contains_int_int.mono _ _ _
   | exact LeO.none _
   | refine LeO.ite ?_ ?_
   | refine LeO.bind ?_ (fun _=>?_)
theorem shares_net_has.calls (k:Nat) (b9:Option Addr) (c0:Nat) (b3:List Int) (c1:Option Addr) (d0:Nat) (b0:List (S45)) (a1:Int) (a2:Int) (r:Bool) (w:World) (d3:Kd.C (Kd.int .i64) w b9 b3.length b3) (d4:b3.length ≤ c0) (d5:Kd.C k45 w c1 b0.length b0) (d6:b0.length ≤ d0) (h:shares_net_has.f k b3 b0 a1 a2 = some r) :
  Calls Try.prog 104 #[.agg #[.slice b9 b3.length c0,.slice c1 b0.length d0],.int .i64 a1,.int .i64 a2] w fun e w'=>e = .returned (.bool r) ∧ Below w.heap.size w w':=by
 have e8:=Try.underlying109;have e9:=Aside0.mk d3;have h0:=Aside0.mk d4;clear d3 d4;have e1:=Aside0.mk d5;have h1:=Aside0.mk d6;clear d5 d6;have HB:=Aside0.mk (Below.refl w.heap.size w);have H:(if 0 ≤ a1 then (if a1 < (b0.length:Int) then ((slices_Contains_int_int.f k ((rd_T45 b0 a1).f1) a2).bind fun b8=>(some b8)) else (none)) else (none)) = some r:=h;clear h;by_cases c4:0 ≤ a1
 case neg =>
  rw [if_neg c4] at H;exact absurd H (by simp)
 rw [if_pos c4] at H;have h9:decide (0 ≤ a1) = true:=decide_eq_true c4;clear c4;by_cases c5:a1 < (b0.length:Int)
 case neg =>
  rw [if_neg c5] at H;exact absurd H (by simp)
 rw [if_pos c5] at H;have i0:decide (a1 < (b0.length:Int)) = true:=decide_eq_true c5;clear c5;replace H:=Option.bind_eq_some_iff.mp H;obtain ⟨b8,h2,H⟩:=H;replace H:(some b8) = some r:=H;have A6:=Aside0.mk h2;clear h2;obtain rfl:=Option.some.inj H;go_enter Try.func104,Try.ntmps104;go_wp2_with (first | ((with_reducible refine gate_dst (N:=3) rfl ?_);refine box_event ?hg (N:=3) ?hd (cs:=#[.slice b9 b3.length c0,.slice c1 b0.length d0]) (t:=109) ?hr ?_;(case hd=>rfl);(case hg=>rfl);(case hr=>first | (go_simp;done) | (go_simp;rfl));intro b4 hg w7 hbox hb;have h3:=Aside0.mk (below_step (by repeat (first | (with_reducible first | exact HB.out | apply below_alloc | apply pw_below_drewN | apply below_drew1) | exact HB.out)) hb);have h4:=Aside0.mk (hbox);have h5:=Aside0.mk ((by rw [hg];exact (below_size (by repeat (first | (with_reducible first | exact HB.out | apply below_alloc | apply pw_below_drewN | apply below_drew1) | exact HB.out))):w.heap.size ≤ b4));have h6:=Aside0.mk ((by rw [hg];exact (below_size (by repeat (first | (with_reducible first | exact HB.out | apply below_alloc | apply pw_below_drewN | apply below_drew1) | exact HB.out))):w.heap.size ≤ b4));clear HB;have HB:=h3;have b5:=h4;have h7:=h5;have e2:=h6;clear h3 h4 h5 h6;clear hb hbox hg;have e3:w7.cell? ⟨b4,0,none⟩ = some (.slice b9 b3.length c0):=(blk_cell b5.out 0).trans rfl;have e4:w7.cell? ⟨b4,1,none⟩ = some (.slice c1 b0.length d0):=(blk_cell b5.out 1).trans rfl;have e5:=blk_frozen b5.out 0;have e6:=blk_frozen b5.out 1;have d7:0 ≤ (a1:Int):=of_decide_eq_true (by first | (with_reducible assumption) | assumption);have d8:a1 < (b0.length:Int):=of_decide_eq_true (by first | (with_reducible assumption) | assumption);obtain ⟨h8,d9,e0,e7,b1,b2,b6,b7⟩:=at_T45 e1.out a1 d7 d8;cases e7;replace b1:=(HB.out.cell (World.block_lt_of_cell? w _ b1)).trans b1;replace b2:=(HB.out.cell (World.block_lt_of_cell? w _ b2)).trans b2;have d1:=Aside0.mk b7;have d2:=Aside0.mk b6;clear b7 b6;replace d7:=eq_true d7;replace d8:=eq_true d8) | ((with_reducible refine gate_callee (f:=124) rfl ?_);refine goesL_ (some 14) rfl rfl Try.func124 (by kernel_rfl) rfl #[.slice d9 ((rd_T45 b0 a1).f1).length e0,.int .i64 a2] rfl (by (try simp only [List.map_toArray,List.map_cons,List.map_nil]);first | done | rfl | (simp only [List.length_drop,List.length_take];rfl)) ?_;(with_reducible refine (slices_Contains_int_int.calls k _ _ ((rd_T45 b0 a1).f1) a2 b8 _ ?side1 ?side2 A6.out).mono ?_);(case side1=>repeat (first | exact (Kd.C_below d1.out HB.out) | (with_reducible refine Kd.C_alloc ?_ _) | (with_reducible refine Kd.C_drewN ?_ _) | (with_reducible refine Kd.C_drew ?_)));(case side2=>exact d2.out);rintro e w' ⟨rfl,⟨nd,rfl⟩⟩;refine ⟨_,rfl,?_⟩));go_ret;exact ⟨by first | rfl | (simp [errW_none,errW_some] <;> rfl) | (simp [*,errW_none,errW_some] <;> rfl),by repeat (first | (with_reducible first | exact HB.out | apply below_alloc | apply pw_below_drewN | apply below_drew1 | refine below_set ?_ e2.out) | exact HB.out)⟩
end Go.Proofs.Ytjohcjfmlhihbaa.G
namespace Go.Proofs.Ytjohcjfmlhihbaa.G
open Go.RowKit Go.Proofs.YtjohcjfmlhihbaaW.PrintWords Go.Proofs.YtjohcjfmlhihbaaW.PrintLast Go.Proofs.YtjohcjfmlhihbaaW.PrintMore
set_option maxHeartbeats 8000000
set_option maxRecDepth 100000
attribute [local go_sem] cond_true cond_false fld23_0 fld23_1 fld45_0 fld45_1 fld109_0 fld109_1 fld94_0 fld94_1 max2_int min2_int max_two min_two max_three min_three max_four min_four
def shares_net_load.l0:Nat → List (S23) → Int → Int → Int → List Int → List (S45) → Int → Int → Option (Int × Int)
 | 0,_,_,_,_,_,_,_,_=>none
 | k + 1,x1,x2,o8,h2,d7,d8,d9,e0=>if h2 < o8 then ((shares_net_has.f k d7 d8 h2 x2).bind fun h1=>(if h1 = true then (if 0 ≤ h2 then (if h2 < (x1.length:Int) then ((shares_add.f k d9 e0 ((rd_T23 x1 h2).f0) ((rd_T23 x1 h2).f1)).bind fun e5=>(shares_net_load.l0 k x1 x2 o8 (wrap64 (h2 + 1)) d7 d8 e5.1 e5.2)) else (none)) else (none)) else (shares_net_load.l0 k x1 x2 o8 (wrap64 (h2 + 1)) d7 d8 d9 e0))) else (some (d9,e0))
def shares_net_load.f (k:Nat) (c0:List Int) (b8:List (S45)) (l1:List (S23)) (a2:Int):Option (Int × Int):=(shares_whole.f 0).bind fun e6=>(shares_net_load.l0 k l1 a2 (b8.length:Int) 0 c0 b8 e6.1 e6.2)
theorem shares_net_load.mono_l:∀ k,(∀ y0 y1 y2 y3 y4 y5 y6 y7,LeO (shares_net_load.l0 k y0 y1 y2 y3 y4 y5 y6 y7) (shares_net_load.l0 (k + 1) y0 y1 y2 y3 y4 y5 y6 y7))
 | 0=>fun _ _ _ _ _ _ _ _ r h=>by simp [shares_net_load.l0] at h
 | k + 1=>by
  have o9:=shares_net_load.mono_l k;intro y0 y1 y2 y3 y4 y5 y6 y7;unfold shares_net_load.l0
  repeat' first
  | (with_reducible first | exact o9 _ _ _ _ _ _ _ _ | exact shares_add.mono _ _ _ _ _ | exact shares_net_has.mono _ _ _ _ _ | exact LeO.refl _ | exact LeO.none _ | refine LeO.ite ?_ ?_ | refine LeO.bind ?_ (fun _=>?_))
  | exact LeO.none _ | refine LeO.ite ?_ ?_ | refine LeO.bind ?_ (fun _=>?_)
theorem shares_net_load.mono:∀ a0 a1 a2 a3 k,LeO (shares_net_load.f k a0 a1 a2 a3) (shares_net_load.f (k + 1) a0 a1 a2 a3):=by
 intro a0 a1 a2 a3 k;have o9:=shares_net_load.mono_l k;unfold shares_net_load.f
 repeat' first
   | (with_reducible first | exact o9 _ _ _ _ _ _ _ _ | exact shares_add.mono _ _ _ _ _ | exact shares_net_has.mono _ _ _ _ _ | exact LeO.refl _ | exact LeO.none _ | refine LeO.ite ?_ ?_ | refine LeO.bind ?_ (fun _=>?_))
   | exact LeO.none _ | refine LeO.ite ?_ ?_ | refine LeO.bind ?_ (fun _=>?_)
theorem shares_net_load.calls (k:Nat) (e1:Option Addr) (e2:Nat) (c0:List Int) (e3:Option Addr) (e4:Nat) (b8:List (S45)) (A1:Option Addr) (c1:Nat) (l1:List (S23)) (a2:Int) (r1:Int) (r2:Int) (w:World) (h3:Kd.C (Kd.int .i64) w e1 c0.length c0) (h4:c0.length ≤ e2) (h5:Kd.C k45 w e3 b8.length b8) (h6:b8.length ≤ e4) (p1:Kd.C k23 w A1 l1.length l1) (p2:l1.length ≤ c1) (h:shares_net_load.f k c0 b8 l1 a2 = some (r1,r2)) :
  Calls Try.prog 107 #[.agg #[.slice e1 c0.length e2,.slice e3 b8.length e4],.slice A1 l1.length c1,.int .i64 a2] w fun e w'=>e = .returned (.agg #[.int .i64 r1,.int .i64 r2]) ∧ Below w.heap.size w w':=by
 have p3:=Try.underlying109;have s5:=Try.underlying23;have h7:=A_ h3;have h8:=A_ h4;clear h3 h4;have h9:=A_ h5;have i0:=A_ h6;clear h5 h6;have s6:=A_ p1;have t4:=A_ p2;clear p1 p2;have HB:=A_ (Below.refl w.heap.size w);have H:((shares_whole.f 0).bind fun e6=>(shares_net_load.l0 k l1 a2 (b8.length:Int) 0 c0 b8 e6.1 e6.2)) = some (r1,r2):=h;clear h;replace H:=Option.bind_eq_some_iff.mp H;obtain ⟨⟨i1,i6⟩,A40,H⟩:=H;dsimp only at H;have A4:=A_ A40;clear A40;have H':=A_ H;clear H;go_enter Try.func107,Try.ntmps107;go_wp2_with (first | ((with_reducible refine gate_dst (N:=3) rfl ?_);refine bx 3 #[.slice e1 c0.length e2,.slice e3 b8.length e4] 109 ?_;intro d6 hg w5 hbox hb;have b0:=A_ hbox;have i7:=gw hg HB;have p4:=i7;replace HB:=bB HB hb;clear hb hbox hg) | ((with_reducible refine gate_dst (N:=6) rfl ?_);refine bx 6 #[.int .i64 0,.int .i64 0] 23 ?_;intro e7 hg w6 hbox hb;have b6:=A_ hbox;have i8:=gw hg HB;have p5:=i8;have d0:=nl hg b0;have d1:=ng hg b0;replace b0:=kB b0 hb;replace HB:=bB HB hb;clear hb hbox hg) | ((with_reducible refine gate_callee (f:=64) rfl ?_);refine gL (some 9) Try.func64 #[.int .i64 0] ?_;(with_reducible refine (shares_whole.calls 0 i1 i6 _ A4.out).mono ?_);rintro e w7 ⟨rfl,hb⟩;refine ⟨_,rfl,?_⟩;replace b0:=kB b0 hb;replace b6:=kB b6 hb;replace HB:=bB HB hb;(try clear hb)) | ((with_reducible refine gate_dst (N:=7) rfl ?_);refine bx 7 #[.int .i64 0,.int .i64 0] 23 ?_;intro d3 hg w8 hbox hb;have b3:=A_ hbox;have i9:=gw hg HB;have p6:=i9;have b5:=nl hg b0;have b9:=ng hg b0;have b7:=nl hg b6;have d2:=ng hg b6;replace b0:=kB b0 hb;replace b6:=kB b6 hb;replace HB:=bB HB hb;clear hb hbox hg;have s7:=b9.out;have s8:=b5.out;have p7:=d2.out;have p8:=b7.out;have j9:w8.cell? ⟨d3,0,none⟩ = some (.int .i64 0):=cz b3 0;have l5:w8.cell? ⟨d3,1,none⟩ = some (.int .i64 0):=cz b3 1;have l6:=blk_frozen b3.out 0;have l7:=blk_frozen b3.out 1;have p9:=d0.out;have q0:=d1.out;have l8:w8.cell? ⟨d6,0,none⟩ = some (.slice e1 c0.length e2):=cz b0 0;have l9:w8.cell? ⟨d6,1,none⟩ = some (.slice e3 b8.length e4):=cz b0 1;have m0:=blk_frozen b0.out 0;have m1:=blk_frozen b0.out 1));go_loopg [13] k (fun kq s9 w'=>∃ (b4:Int) (b1:Int) (b2:Int),s9 = .int .i64 b4 ∧ Aside0 (shares_net_load.l0 kq l1 a2 (b8.length:Int) b4 c0 b8 b1 b2 = some (r1,r2)) ∧ Aside0 (kq ≤ k) ∧ Aside0 (w'.heap[d6]? = some (.cells #[(.slice e1 c0.length e2),(.slice e3 b8.length e4)] 109 (0,0))) ∧ Aside0 (w'.heap[e7]? = some (.cells #[.int .i64 0,.int .i64 0] 23 (0,0))) ∧ Aside0 (w'.heap[d3]? = some (.cells #[.int .i64 b1,.int .i64 b2] 23 (0,0))) ∧ Aside0 (Below w.heap.size w w'))
 case atStart=>exact ⟨(0),(i1),(i6),rfl,H',⟨Nat.le_refl _⟩,⟨bf2_ b5 b5 b0⟩,⟨bf2_ b7 b7 b6⟩,⟨by (with_reducible repeat (first | refine blk_drewN ?_ _ | refine blk_drew ?_ | refine blk_alloc ?_ _));refine blk_put (cs:=#[.int .i64 i1,.int .i64 0]) ?_ 1 _ rfl;(with_reducible repeat (first | refine blk_drewN ?_ _ | refine blk_drew ?_ | refine blk_alloc ?_ _));refine blk_put (cs:=#[.int .i64 0,.int .i64 0]) ?_ 0 _ rfl;(with_reducible repeat (first | refine blk_drewN ?_ _ | refine blk_drew ?_ | refine blk_alloc ?_ _));exact b3.out⟩,⟨bl HB⟩⟩
 case round =>
  clear H';obtain ⟨b4,b1,b2,rfl,HA,m2,b0,b6,b3,HB⟩:=hrel
  cases gk with
  | zero=>exact absurd HA.out (by simp [shares_net_load.l0])
  | succ k1 =>
   have H:=HA.out;clear HA;simp only [shares_net_load.l0] at H;by_cases i5:b4 < (b8.length:Int)
   case neg =>
    rw [if_neg i5] at H;have j5:=decide_eq_false i5;clear i5;simp only [Option.some.injEq,Prod.mk.injEq] at H;obtain ⟨rfl,rfl⟩:=H;have q1:=b9.out;have q2:=b5.out;have q3:=d2.out;have q4:=b7.out;have m3:wr.cell? ⟨d3,0,none⟩ = some (.int .i64 b1):=cz b3 0;have m4:wr.cell? ⟨d3,1,none⟩ = some (.int .i64 b2):=cz b3 1;have m5:=blk_frozen b3.out 0;have m6:=blk_frozen b3.out 1;have q5:=d1.out;have q6:=d0.out;have m7:wr.cell? ⟨e7,0,none⟩ = some (.int .i64 0):=cz b6 0;have m8:wr.cell? ⟨e7,1,none⟩ = some (.int .i64 0):=cz b6 1;have m9:=blk_frozen b6.out 0;have n0:=blk_frozen b6.out 1;go_wp2;refine bodyPost_ret (results_cell_row rfl _ _ e7 23 #[.int .i64 b1,.int .i64 b2] (0,0) _ rfl (by (with_reducible repeat (first | refine blk_drewN ?_ _ | refine blk_drew ?_ | refine blk_alloc ?_ _));refine blk_put (cs:=#[.int .i64 b1,.int .i64 0]) ?_ 1 _ rfl;(with_reducible repeat (first | refine blk_drewN ?_ _ | refine blk_drew ?_ | refine blk_alloc ?_ _));refine blk_put (cs:=#[.int .i64 0,.int .i64 0]) ?_ 0 _ rfl;(with_reducible repeat (first | refine blk_drewN ?_ _ | refine blk_drew ?_ | refine blk_alloc ?_ _));exact b6.out) Try.underlying23 rfl (by kernel_rfl)) rfl ?_;exact ⟨rfl,bl HB⟩
   rw [if_pos i5] at H;have j5:=decide_eq_true i5;clear i5;replace H:=Option.bind_eq_some_iff.mp H;obtain ⟨h1,j7,H⟩:=H;replace H:(if h1 = true then (if 0 ≤ b4 then (if b4 < (l1.length:Int) then ((shares_add.f k1 b1 b2 ((rd_T23 l1 b4).f0) ((rd_T23 l1 b4).f1)).bind fun e5=>(shares_net_load.l0 k1 l1 a2 (b8.length:Int) (wrap64 (b4 + 1)) c0 b8 e5.1 e5.2)) else (none)) else (none)) else (shares_net_load.l0 k1 l1 a2 (b8.length:Int) (wrap64 (b4 + 1)) c0 b8 b1 b2)) = some (r1,r2):=H;have q7:=A_ j7;clear j7;by_cases n1:h1 = true
   case neg =>
    replace n1:=Bool.eq_false_iff.mpr n1;subst n1;rw [if_neg (show ¬ (false = true) by decide)] at H;have H':=A_ H;clear H;have q8:=d0.out;have q9:=d1.out;have r0:=b5.out;have r3:=b9.out;have n2:wr.cell? ⟨d6,0,none⟩ = some (.slice e1 c0.length e2):=cz b0 0;have n3:wr.cell? ⟨d6,1,none⟩ = some (.slice e3 b8.length e4):=cz b0 1;have n4:=blk_frozen b0.out 0;have n5:=blk_frozen b0.out 1;go_wp2_with (first | ((with_reducible refine gate_callee (f:=104) rfl ?_);refine gL (some 19) Try.func104 #[.agg #[.slice e1 c0.length e2,.slice e3 b8.length e4],.int .i64 b4,.int .i64 a2] ?_;(with_reducible refine (shares_net_has.calls k1 _ _ c0 _ _ b8 b4 a2 false _ ?side1 ?side2 ?side3 ?side4 q7.out).mono ?_);(case side1=>exact cB h7 HB);(case side2=>exact h8.out);(case side3=>exact cB h9 HB);(case side4=>exact i0.out);rintro e t5 ⟨rfl,hb⟩;refine ⟨_,rfl,?_⟩;replace b0:=kB b0 hb;replace b6:=kB b6 hb;replace b3:=kB b3 hb;replace HB:=bB HB hb;(try clear hb)));go_roundg k1
    case measure=>have:=m2.out;omega
    case rel=>exact ⟨(wrap64 (b4 + 1)),(b1),(b2),rfl,H',⟨by have:=m2.out;omega⟩,⟨dr_ b0⟩,⟨dr_ b6⟩,⟨dr_ b3⟩,⟨bl HB⟩⟩
   subst n1;rw [if_pos rfl] at H;replace H:=gd H;obtain ⟨r4,H⟩:=H;have r5:=decide_eq_true r4;clear r4;replace H:=gd H;obtain ⟨r6,H⟩:=H;have r7:=decide_eq_true r6;clear r6;replace H:=Option.bind_eq_some_iff.mp H;obtain ⟨⟨i2,j8⟩,A190,H⟩:=H;dsimp only at H;have t0:=A_ A190;clear A190;have H':=A_ H;clear H;have r8:=d0.out;have r9:=d1.out;have s0:=b5.out;have s1:=b9.out;have n6:wr.cell? ⟨d6,0,none⟩ = some (.slice e1 c0.length e2):=cz b0 0;have n7:wr.cell? ⟨d6,1,none⟩ = some (.slice e3 b8.length e4):=cz b0 1;have n8:=blk_frozen b0.out 0;have n9:=blk_frozen b0.out 1;try go_wp2_with (first | ((with_reducible refine gate_callee (f:=104) rfl ?_);refine gL (some 19) Try.func104 #[.agg #[.slice e1 c0.length e2,.slice e3 b8.length e4],.int .i64 b4,.int .i64 a2] ?_;(with_reducible refine (shares_net_has.calls k1 _ _ c0 _ _ b8 b4 a2 true _ ?side1 ?side2 ?side3 ?side4 q7.out).mono ?_);(case side1=>exact cB h7 HB);(case side2=>exact h8.out);(case side3=>exact cB h9 HB);(case side4=>exact i0.out);rintro e t1 ⟨rfl,hb⟩;refine ⟨_,rfl,?_⟩;replace b0:=kB b0 hb;replace b6:=kB b6 hb;replace b3:=kB b3 hb;replace HB:=bB HB hb;(try clear hb)))
   replace b0:=kD b0;replace b6:=kD b6;replace b3:=kD b3;replace HB:=bD HB;have i3:0 ≤ (b4:Int):=of_decide_eq_true (by assumption);have i4:b4 < (l1.length:Int):=of_decide_eq_true (by assumption);obtain ⟨h0,p0,d4,d5⟩:=at_T23 s6.out b4 i3 i4;have e8:=d5;have e9:=d4
   cases p0;replace d4:=cT HB d4;replace d5:=cT HB d5;replace i3:=eq_true i3;replace i4:=eq_true i4;refine start_ (n:=7) (S:=fun w'=>w'.cell? ⟨d3,0,none⟩ = some (.int .i64 b1) ∧ w'.cell? ⟨d3,1,none⟩ = some (.int .i64 b2) ∧ w'.cell? (h0.add ((b4).toNat * 2)) = some (.int .i64 ((rd_T23 l1 b4).f0)) ∧ w'.cell? ⟨(h0.add ((b4).toNat * 2)).block,(h0.add ((b4).toNat * 2)).off + 1,none⟩ = some (.int .i64 ((rd_T23 l1 b4).f1))) (ds:=[6]) (ba 7 0) (by kernel_rfl) rfl rfl ⟨cz b3 0,cz b3 1,(cT HB e9),(cT HB e8)⟩ (fun hHeld=>?_);generalize t1.drew = t6 at b0 b6 b3 HB d4 d5 hHeld ⊢;refine pr 1 21 2 ?_;refine pr 2 22 6 ?_;refine pr 3 23 14 ?_;refine tr 0 20 15 hHeld ?_;refine tr 4 24 31 hHeld ?_;refine os 5 25 63 (fun K hK=>?_);refine gq Try.func88 #[.agg #[.int .i64 b1,.int .i64 b2],.agg #[.int .i64 ((rd_T23 l1 b4).f0),.int .i64 ((rd_T23 l1 b4).f1)]] ?_;with_reducible refine (shares_add.calls k1 b1 b2 ((rd_T23 l1 b4).f0) ((rd_T23 l1 b4).f1) i2 j8 _ t0.out).mono ?_;rintro e s2 ⟨rfl,hb⟩;refine ⟨_,rfl,?_⟩;replace b0:=kB b0 hb;replace b6:=kB b6 hb;replace b3:=kB b3 hb;replace HB:=bB HB hb;(try clear hb)
   refine hK.out _ _ ⟨cz b3 0,cz b3 1,(cT HB e9),(cT HB e8)⟩ (fun hHeld=>?_);clear hK K;refine nq 25 ?_;refine last_ (i:=6) (N:=none) (ba 7 127) rfl rfl (by kernel_rfl) (by decide) (fun K hK=>?_);have t2:s2.cell? ⟨d3,0,none⟩ = some (.int .i64 b1):=cz b3 0;have s3:=blk_frozen b3.out 0;have o0:=b5.out;have o1:=b7.out;have o2:=b9.out;have o3:=d2.out;have t3:s2.cell? ⟨d3,1,none⟩ = some (.int .i64 b2):=cz b3 1;have s4:=blk_frozen b3.out 1;have o4:=b5.out;have o5:=b7.out;have o6:=b9.out;have o7:=d2.out;refine skip_ (w1:=?_) (by rfl) rfl ?_ ?_;rotate_left
   ·go_simp;rfl
   refine hK.out _ _ ?_;clear hK K;refine done_ (by kernel_rfl) ?_;try go_wp2
   go_roundg k1
   case measure=>have:=m2.out;omega
   case rel=>exact ⟨(wrap64 (b4 + 1)),(i2),(j8),rfl,H',⟨by have:=m2.out;omega⟩,⟨bf2_ b5 b5 b0⟩,⟨bf2_ b7 b7 b6⟩,⟨by (with_reducible repeat (first | refine blk_drewN ?_ _ | refine blk_drew ?_ | refine blk_alloc ?_ _));refine blk_put (cs:=#[.int .i64 i2,.int .i64 b2]) ?_ 1 _ rfl;(with_reducible repeat (first | refine blk_drewN ?_ _ | refine blk_drew ?_ | refine blk_alloc ?_ _));refine blk_put (cs:=#[.int .i64 b1,.int .i64 b2]) ?_ 0 _ rfl;(with_reducible repeat (first | refine blk_drewN ?_ _ | refine blk_drew ?_ | refine blk_alloc ?_ _));exact b3.out⟩,⟨bl HB⟩⟩
def shares_smaller.f (k:Nat) (b3:Int) (b5:Int) (b4:Int) (b6:Int):Option (Int × Int):=(shares_compare.f k b3 b5 b4 b6).bind fun d4=>(if d4 ≤ 0 then (some (b3,b5)) else (some (b4,b6)))
theorem shares_smaller.mono:∀ a0 a1 a2 a3 k,LeO (shares_smaller.f k a0 a1 a2 a3) (shares_smaller.f (k + 1) a0 a1 a2 a3):=by
 intro a0 a1 a2 a3 k;unfold shares_smaller.f
 repeat' first
   | (with_reducible first | exact shares_compare.mono _ _ _ _ _ | exact LeO.refl _ | exact LeO.none _ | refine LeO.ite ?_ ?_ | refine LeO.bind ?_ (fun _=>?_))
   | exact LeO.none _ | refine LeO.ite ?_ ?_ | refine LeO.bind ?_ (fun _=>?_)
theorem shares_smaller.calls (k:Nat) (b3:Int) (b5:Int) (b4:Int) (b6:Int) (r1:Int) (r2:Int) (w:World) (h:shares_smaller.f k b3 b5 b4 b6 = some (r1,r2)) :
  Calls Try.prog 129 #[.agg #[.int .i64 b3,.int .i64 b5],.agg #[.int .i64 b4,.int .i64 b6]] w fun e w'=>e = .returned (.agg #[.int .i64 r1,.int .i64 r2]) ∧ Below w.heap.size w w':=by
 have m7:=Try.underlying23;have HB:=A_ (Below.refl w.heap.size w);have H:((shares_compare.f k b3 b5 b4 b6).bind fun d4=>(if d4 ≤ 0 then (some (b3,b5)) else (some (b4,b6)))) = some (r1,r2):=h;clear h;replace H:=Option.bind_eq_some_iff.mp H;obtain ⟨d4,l8,H⟩:=H;replace H:(if d4 ≤ 0 then (some (b3,b5)) else (some (b4,b6))) = some (r1,r2):=H;have A3:=A_ l8;clear l8;by_cases c4:d4 ≤ 0
 ·rw [if_pos c4] at H;have l7:=decide_eq_true c4;clear c4;simp only [Option.some.injEq,Prod.mk.injEq] at H;obtain ⟨rfl,rfl⟩:=H;go_enter Try.func129,Try.ntmps129;go_wp2_with (first | ((with_reducible refine gate_dst (N:=2) rfl ?_);refine bx 2 #[.int .i64 b3,.int .i64 b5] 23 ?_;intro d1 hg w5 hbox hb;have b0:=A_ hbox;have d5:=gw hg HB;have d8:=d5;replace HB:=bB HB hb;clear hb hbox hg) | ((with_reducible refine gate_dst (N:=3) rfl ?_);refine bx 3 #[.int .i64 b4,.int .i64 b6] 23 ?_;intro d2 hg w6 hbox hb;have b1:=A_ hbox;have d6:=gw hg HB;have d9:=d6;have b7:=nl hg b0;have b8:=ng hg b0;replace b0:=kB b0 hb;replace HB:=bB HB hb;clear hb hbox hg) | ((with_reducible refine gate_dst (N:=4) rfl ?_);refine bx 4 #[.int .i64 0,.int .i64 0] 23 ?_;intro d3 hg w7 hbox hb;have b2:=A_ hbox;have d7:=gw hg HB;have e0:=d7;have b9:=nl hg b0;have c0:=ng hg b0;have c1:=nl hg b1;have d0:=ng hg b1;replace b0:=kB b0 hb;replace b1:=kB b1 hb;replace HB:=bB HB hb;clear hb hbox hg;have m8:=b7.out;have m9:=b8.out;have n0:=b9.out;have n1:=c0.out;have e1:w7.cell? ⟨d1,0,none⟩ = some (.int .i64 b3):=cz b0 0;have e2:w7.cell? ⟨d1,1,none⟩ = some (.int .i64 b5):=cz b0 1;have e3:=blk_frozen b0.out 0;have e4:=blk_frozen b0.out 1;have l9:=c1.out;have m0:=d0.out;have e5:w7.cell? ⟨d2,0,none⟩ = some (.int .i64 b4):=cz b1 0;have e6:w7.cell? ⟨d2,1,none⟩ = some (.int .i64 b6):=cz b1 1;have e7:=blk_frozen b1.out 0;have e8:=blk_frozen b1.out 1) | ((with_reducible refine gate_callee (f:=85) rfl ?_);refine gL (some 7) Try.func85 #[.agg #[.int .i64 b3,.int .i64 b5],.agg #[.int .i64 b4,.int .i64 b6]] ?_;(with_reducible refine (shares_compare.calls k b3 b5 b4 b6 d4 _ A3.out).mono ?_);rintro e e9 ⟨rfl,hb⟩;refine ⟨_,rfl,?_⟩;replace b0:=kB b0 hb;replace b1:=kB b1 hb;replace b2:=kB b2 hb;replace HB:=bB HB hb;(try clear hb);have h0:e9.cell? ⟨d1,0,none⟩ = some (.int .i64 b3):=cz b0 0;have h1:e9.cell? ⟨d1,1,none⟩ = some (.int .i64 b5):=cz b0 1;have h2:=blk_frozen b0.out 0;have h3:=blk_frozen b0.out 1;have h4:e9.cell? ⟨d3,0,none⟩ = some (.int .i64 0):=cz b2 0;have h5:e9.cell? ⟨d3,1,none⟩ = some (.int .i64 0):=cz b2 1;have h6:=blk_frozen b2.out 0;have h7:=blk_frozen b2.out 1));refine bodyPost_ret (results_cell_row rfl _ _ d3 23 #[.int .i64 b3,.int .i64 b5] (0,0) _ rfl (by (with_reducible repeat (first | refine blk_drewN ?_ _ | refine blk_drew ?_ | refine blk_alloc ?_ _));refine blk_put (cs:=#[.int .i64 b3,.int .i64 0]) ?_ 1 _ rfl;(with_reducible repeat (first | refine blk_drewN ?_ _ | refine blk_drew ?_ | refine blk_alloc ?_ _));refine blk_put (cs:=#[.int .i64 0,.int .i64 0]) ?_ 0 _ rfl;(with_reducible repeat (first | refine blk_drewN ?_ _ | refine blk_drew ?_ | refine blk_alloc ?_ _));exact b2.out) Try.underlying23 rfl (by kernel_rfl)) rfl ?_;exact ⟨rfl,bl HB⟩
 rw [if_neg c4] at H;have l7:=decide_eq_false c4;clear c4;simp only [Option.some.injEq,Prod.mk.injEq] at H;obtain ⟨rfl,rfl⟩:=H;go_enter Try.func129,Try.ntmps129;go_wp2_with (first | ((with_reducible refine gate_dst (N:=2) rfl ?_);refine bx 2 #[.int .i64 b3,.int .i64 b5] 23 ?_;intro d1 hg n2 hbox hb;have b0:=A_ hbox;have d5:=gw hg HB;have d8:=d5;replace HB:=bB HB hb;clear hb hbox hg) | ((with_reducible refine gate_dst (N:=3) rfl ?_);refine bx 3 #[.int .i64 b4,.int .i64 b6] 23 ?_;intro d2 hg n3 hbox hb;have b1:=A_ hbox;have d6:=gw hg HB;have d9:=d6;have b7:=nl hg b0;have b8:=ng hg b0;replace b0:=kB b0 hb;replace HB:=bB HB hb;clear hb hbox hg) | ((with_reducible refine gate_dst (N:=4) rfl ?_);refine bx 4 #[.int .i64 0,.int .i64 0] 23 ?_;intro d3 hg h8 hbox hb;have b2:=A_ hbox;have d7:=gw hg HB;have e0:=d7;have b9:=nl hg b0;have c0:=ng hg b0;have c1:=nl hg b1;have d0:=ng hg b1;replace b0:=kB b0 hb;replace b1:=kB b1 hb;replace HB:=bB HB hb;clear hb hbox hg;have m1:=b7.out;have m2:=b8.out;have m3:=b9.out;have m4:=c0.out;have h9:h8.cell? ⟨d1,0,none⟩ = some (.int .i64 b3):=cz b0 0;have i0:h8.cell? ⟨d1,1,none⟩ = some (.int .i64 b5):=cz b0 1;have i1:=blk_frozen b0.out 0;have i2:=blk_frozen b0.out 1;have m5:=c1.out;have m6:=d0.out;have i3:h8.cell? ⟨d2,0,none⟩ = some (.int .i64 b4):=cz b1 0;have i4:h8.cell? ⟨d2,1,none⟩ = some (.int .i64 b6):=cz b1 1;have i5:=blk_frozen b1.out 0;have i6:=blk_frozen b1.out 1) | ((with_reducible refine gate_callee (f:=85) rfl ?_);refine gL (some 7) Try.func85 #[.agg #[.int .i64 b3,.int .i64 b5],.agg #[.int .i64 b4,.int .i64 b6]] ?_;(with_reducible refine (shares_compare.calls k b3 b5 b4 b6 d4 _ A3.out).mono ?_);rintro e i7 ⟨rfl,hb⟩;refine ⟨_,rfl,?_⟩;replace b0:=kB b0 hb;replace b1:=kB b1 hb;replace b2:=kB b2 hb;replace HB:=bB HB hb;(try clear hb);have i8:i7.cell? ⟨d2,0,none⟩ = some (.int .i64 b4):=cz b1 0;have i9:i7.cell? ⟨d2,1,none⟩ = some (.int .i64 b6):=cz b1 1;have j5:=blk_frozen b1.out 0;have j7:=blk_frozen b1.out 1;have j8:i7.cell? ⟨d3,0,none⟩ = some (.int .i64 0):=cz b2 0;have j9:i7.cell? ⟨d3,1,none⟩ = some (.int .i64 0):=cz b2 1;have l5:=blk_frozen b2.out 0;have l6:=blk_frozen b2.out 1));refine bodyPost_ret (results_cell_row rfl _ _ d3 23 #[.int .i64 b4,.int .i64 b6] (0,0) _ rfl (by (with_reducible repeat (first | refine blk_drewN ?_ _ | refine blk_drew ?_ | refine blk_alloc ?_ _));refine blk_put (cs:=#[.int .i64 b4,.int .i64 0]) ?_ 1 _ rfl;(with_reducible repeat (first | refine blk_drewN ?_ _ | refine blk_drew ?_ | refine blk_alloc ?_ _));refine blk_put (cs:=#[.int .i64 0,.int .i64 0]) ?_ 0 _ rfl;(with_reducible repeat (first | refine blk_drewN ?_ _ | refine blk_drew ?_ | refine blk_alloc ?_ _));exact b2.out) Try.underlying23 rfl (by kernel_rfl)) rfl ?_;exact ⟨rfl,bl HB⟩
end Go.Proofs.Ytjohcjfmlhihbaa.G
namespace Go.Proofs.Ytjohcjfmlhihbaa.G
open Go.RowKit Go.Proofs.YtjohcjfmlhihbaaW.PrintWords Go.Proofs.YtjohcjfmlhihbaaW.PrintLast Go.Proofs.YtjohcjfmlhihbaaW.PrintMore
set_option maxHeartbeats 8000000
set_option maxRecDepth 100000
attribute [local go_sem] cond_true cond_false fld23_0 fld23_1 fld45_0 fld45_1 fld109_0 fld109_1 fld94_0 fld94_1 max2_int min2_int max_two min_two max_three min_three max_four min_four   -- for this text's walks alone
def numnahref07_gcd.l0:Nat → Int → Int → Option (Int)
 | 0,_,_=>none
 | k + 1,x0,x1=>if x1 > 0 then (if x1 = 0 then (none) else (numnahref07_gcd.l0 k x1 (Int.tmod x0 x1))) else (some x0)
def numnahref07_gcd.f (k:Nat) (a0:Int) (a1:Int):Option (Int):=numnahref07_gcd.l0 k a0 a1
theorem numnahref07_gcd.mono_l:∀ k,(∀ y0 y1,LeO (numnahref07_gcd.l0 k y0 y1) (numnahref07_gcd.l0 (k + 1) y0 y1))
 | 0=>fun _ _ r h=>by simp [numnahref07_gcd.l0] at h
 | k + 1=>by
  have b2:=numnahref07_gcd.mono_l k;intro y0 y1;unfold numnahref07_gcd.l0
  repeat' first
  | (with_reducible exact b2 _ _)
  | (with_reducible exact LeO.refl _)
  | (with_reducible exact LeO.none _)
  | (with_reducible refine LeO.ite ?_ ?_)
  | (with_reducible refine LeO.bind ?_ (fun _=>?_))
  | exact b2 _ _
  | exact LeO.none _
  | refine LeO.ite ?_ ?_
  | refine LeO.bind ?_ (fun _=>?_)
theorem numnahref07_gcd.mono:∀ a0 a1 k,LeO (numnahref07_gcd.f k a0 a1) (numnahref07_gcd.f (k + 1) a0 a1):=by
 intro a0 a1 k;have b2:=numnahref07_gcd.mono_l k;unfold numnahref07_gcd.f
 repeat' first
   | (with_reducible exact b2 _ _)
   | (with_reducible exact LeO.refl _)
   | (with_reducible exact LeO.none _)
   | (with_reducible refine LeO.ite ?_ ?_)
   | (with_reducible refine LeO.bind ?_ (fun _=>?_))
   | exact b2 _ _
   | exact LeO.none _
   | refine LeO.ite ?_ ?_
   | refine LeO.bind ?_ (fun _=>?_)
theorem numnahref07_gcd.calls (k:Nat) (a0:Int) (a1:Int) (r:Int) (w:World) (h:numnahref07_gcd.f k a0 a1 = some r) :
  Calls Try.prog 73 #[.int .i64 a0,.int .i64 a1] w fun e w'=>e = .returned (.int .i64 r) ∧ Drawn0 w w':=by
 have H:(numnahref07_gcd.l0 k a0 a1) = some r:=h;clear h;have H':=Aside0.mk H;clear H;go_enter Try.func73,Try.ntmps73;go_wp2;go_loopg [0,1] k (fun kq v0 v1 w'=>∃ (b1:Int) (b0:Int),v0 = .int .i64 b1 ∧ v1 = .int .i64 b0 ∧ Aside0 (numnahref07_gcd.l0 kq b1 b0 = some r) ∧ Aside0 (kq ≤ k) ∧ Drawn0 w w')
 case atStart=>exact ⟨(a0),(a1),(by first | rfl | (simp;done) | (simp [*];done)),(by first | rfl | (simp;done) | (simp [*];done)),H',⟨Nat.le_refl _⟩,by repeat (first | exact Drawn0.refl _ | apply Drawn0.step)⟩
 case round =>
  clear H';try clear p2
  obtain ⟨b1,b0,rfl,rfl,HA,b4,⟨m1,rfl⟩⟩:=hrel
  cases gk with
  | zero=>exact absurd HA.out (by simp [numnahref07_gcd.l0])
  | succ k1 =>
   have H:=HA.out;clear HA;simp only [numnahref07_gcd.l0] at H;by_cases c3:b0 > 0
   case neg =>
    rw [if_neg c3] at H;have b3:decide (0 < b0) = false:=decide_eq_false c3;clear c3;obtain rfl:=Option.some.inj H;go_wp2;go_ret;exact ⟨by first | rfl | (simp;done) | (simp [*];done),by repeat (first | exact Drawn0.refl _ | apply Drawn0.step)⟩
   rw [if_pos c3] at H;have b3:decide (0 < b0) = true:=decide_eq_true c3;clear c3;by_cases c4:b0 = 0
   ·rw [if_pos c4] at H;exact absurd H (by simp)
   rw [if_neg c4] at H;have b5:(b0 == 0) = false:=beq_eq_false_iff_ne.mpr c4;have b6:(b0 != 0) = true:=bne_iff_ne.mpr c4;have H':=Aside0.mk H;clear H;go_wp2;go_roundg k1
   case measure=>have:=b4.out;omega
   case rel=>exact ⟨(b0),(Int.tmod b1 b0),(by first | rfl | (simp;done) | (simp [*];done)),(by first | rfl | (simp;done) | (simp [*];done)),H',⟨by have:=b4.out;omega⟩,by repeat (first | exact Drawn0.refl _ | apply Drawn0.step)⟩
def numnahref07_Reduced.f (k:Nat) (a0:Int) (a1:Int):Option (Int × Int):=(numnahref07_gcd.f k (mx a0 (wrap64 (-a0))) a1).bind fun b0=>(if b0 = 0 then (none) else (some (wrap64 (Int.tdiv a0 b0),wrap64 (Int.tdiv a1 b0))))
theorem numnahref07_Reduced.mono:∀ a0 a1 k,LeO (numnahref07_Reduced.f k a0 a1) (numnahref07_Reduced.f (k + 1) a0 a1):=by
 intro a0 a1 k;unfold numnahref07_Reduced.f
 repeat' first
   | (with_reducible exact numnahref07_gcd.mono _ _ _)
   | (with_reducible exact LeO.refl _)
   | (with_reducible exact LeO.none _)
   | (with_reducible refine LeO.ite ?_ ?_)
   | (with_reducible refine LeO.bind ?_ (fun _=>?_))
   | exact numnahref07_gcd.mono _ _ _
   | exact LeO.none _
   | refine LeO.ite ?_ ?_
   | refine LeO.bind ?_ (fun _=>?_)
def numnahref07_Reduced.T2:Bool × List (List Nat × List Nat):=(true,[([],[]),([],[]),([0,1],[0,1]),([],[]),([],[]),([3,4],[3,4]),([2,5],[2,5]),([6,0,1,2,3,4,5,6],[6])])
def numnahref07_Reduced.B2:List Nat:=[0,0,3,0,0,24,63,127]
theorem numnahref07_Reduced.tab2:rtab .any (opsOf Try.f34 2) = numnahref07_Reduced.T2:=by kernel_rfl
theorem numnahref07_Reduced.bits2:waitsOk numnahref07_Reduced.T2.2 numnahref07_Reduced.B2 = true:=by kernel_rfl
theorem numnahref07_Reduced.calls (k:Nat) (a0:Int) (a1:Int) (r1:Int) (r2:Int) (w:World) (h:numnahref07_Reduced.f k a0 a1 = some (r1,r2)) :
  Calls Try.prog 34 #[.int .i64 a0,.int .i64 a1] w fun e w'=>e = .returned (.agg #[.int .i64 r1,.int .i64 r2]) ∧ Below w.heap.size w w':=by
 have c1:=Try.underlying23;have HB:=A_ (Below.refl w.heap.size w);have H:((numnahref07_gcd.f k (mx a0 (wrap64 (-a0))) a1).bind fun b0=>(if b0 = 0 then (none) else (some (wrap64 (Int.tdiv a0 b0),wrap64 (Int.tdiv a1 b0))))) = some (r1,r2):=h;clear h;obtain ⟨b6,b3⟩:∃ j_:Int,(mx a0 (wrap64 (-a0))) = j_:=⟨_,rfl⟩
 replace H:((numnahref07_gcd.f k (b6) a1).bind fun b0=>(if b0 = 0 then (none) else (some (wrap64 (Int.tdiv a0 b0),wrap64 (Int.tdiv a1 b0))))) = some (r1,r2):=by first | (rw [b3] at H;exact H) | (simp only [b3] at H ⊢;exact H)
 have b7:(if a0 < (wrap64 (-a0)) then (wrap64 (-a0)) else a0) = b6:=b3;replace H:=Option.bind_eq_some_iff.mp H;obtain ⟨b0,b8,H⟩:=H;replace H:(if b0 = 0 then (none) else (some (wrap64 (Int.tdiv a0 b0),wrap64 (Int.tdiv a1 b0)))) = some (r1,r2):=H;have A4:=A_ b8;clear b8;by_cases c5:b0 = 0
 ·rw [if_pos c5] at H;exact absurd H (by simp)
 rw [if_neg c5] at H;have d0:(b0 == 0) = false:=beq_eq_false_iff_ne.mpr c5;have d1:(b0 != 0) = true:=bne_iff_ne.mpr c5;simp only [Option.some.injEq,Prod.mk.injEq] at H;obtain ⟨rfl,rfl⟩:=H;go_enter Try.func34,Try.ntmps34;try go_wp2_with (first | ((with_reducible refine gate_dst (N:=4) rfl ?_);refine box_event ?hg (N:=4) ?hd (cs:=#[.int .i64 0,.int .i64 0]) (t:=23) ?hr ?_;(case hd=>rfl);(case hg=>rfl);(case hr=>first | (go_simp;done) | (go_simp;rfl));intro b2 hg w6 hbox hb;have b1:=A_ hbox;have b4:=gw hg HB;have b5:=b4;replace HB:=bB HB hb;clear hb hbox hg) | ((with_reducible refine gate_callee (f:=73) rfl ?_);refine goesL_ (some 11) rfl rfl Try.func73 (by kernel_rfl) rfl #[.int .i64 b6,.int .i64 a1] rfl (by (try simp only [List.map_toArray,List.map_cons,List.map_nil]);first | done | (simp only [b3];rfl) | rfl | (simp only [List.length_drop,List.length_take];rfl)) ?_;(with_reducible refine (numnahref07_gcd.calls k b6 a1 b0 _ A4.out).mono ?_);rintro e w' ⟨rfl,⟨nd,rfl⟩⟩;refine ⟨_,rfl,?_⟩;(try (rw [drewN_self w6];generalize hq_:World.drewN w6 _ = w6;have b9:Aside0 (w6.heap[b2]? = some (.cells #[.int .i64 0,.int .i64 0] 23 (0,0))):=⟨by rw [← hq_];exact (kb b1)⟩;have c0:Aside0 (Below w.heap.size w w6):=⟨by rw [← hq_];exact (bl HB)⟩;clear b1 HB hq_;have b1:=b9;have HB:=c0;clear b9 c0))))
 replace b1:=A_ (blk_drew b1.out);replace HB:=A_ (below_drew1 HB.out);refine start_ (n:=8) (S:=fun w'=>True) (ds:=[]) (ba 8 0) (by kernel_rfl) rfl rfl trivial (fun hHeld=>?_);refine with_tabW numnahref07_Reduced.tab2 numnahref07_Reduced.bits2 (fun HT_ HW_=>?_);generalize w6.drew = w7 at b1 HB hHeld ⊢;refine pq 0 12 1 HT_ ?_;refine pq 1 13 3 HT_ ?_;refine pq 2 14 7 HT_ ?_;refine pq 3 15 15 HT_ ?_;refine pq 4 16 31 HT_ ?_;refine pq 5 17 63 HT_ ?_;refine pq 6 18 127 HT_ ?_;refine one_ (i:=7) (N:=none) (ba 8 255) rfl rfl (one_of HT_.out (by kernel_rfl)) (by decide) (fun K hK=>?_);have d4:w7.cell? ⟨b2,0,none⟩ = some (.int .i64 0):=cz b1 0;have d2:=blk_frozen b1.out 0;have d5:w7.cell? ⟨b2,1,none⟩ = some (.int .i64 0):=cz b1 1;have d3:=blk_frozen b1.out 1;refine skip_ (w1:=?_) (by rfl) rfl ?_ ?_;rotate_left
 ·go_simp;rfl
 refine hK.out _ _ trivial (fun hHeld=>?_);clear hK K;refine done_ (done_of HT_.out (by kernel_rfl)) ?_;try go_wp2
 refine bodyPost_ret (results_cell_row rfl _ _ b2 23 #[.int .i64 (wrap64 (Int.tdiv a0 b0)),.int .i64 (wrap64 (Int.tdiv a1 b0))] (0,0) _ rfl (by (with_reducible repeat (first | refine blk_drewN ?_ _ | refine blk_drew ?_ | refine blk_alloc ?_ _));refine blk_put (cs:=#[.int .i64 (wrap64 (Int.tdiv a0 b0)),.int .i64 0]) ?_ 1 _ rfl;(with_reducible repeat (first | refine blk_drewN ?_ _ | refine blk_drew ?_ | refine blk_alloc ?_ _));refine blk_put (cs:=#[.int .i64 0,.int .i64 0]) ?_ 0 _ rfl;(with_reducible repeat (first | refine blk_drewN ?_ _ | refine blk_drew ?_ | refine blk_alloc ?_ _));exact b1.out) Try.underlying23 rfl (by kernel_rfl)) rfl ?_;exact ⟨by first | rfl | (simp [errW_none,errW_some] <;> rfl) | (simp only [← b3];first | rfl | (simp [errW_none,errW_some] <;> rfl)) | (simp [*,errW_none,errW_some] <;> rfl),by repeat (first | (with_reducible first | exact HB.out | apply below_alloc | apply pw_below_drewN | apply below_drew1 | refine below_set ?_ b5.out) | exact HB.out)⟩
def numnahref07_Add.f (k:Nat) (b5:Int) (b2:Int) (b6:Int) (b3:Int):Option (Int × Int):=(numnahref07_Reduced.f k (wrap64 ((wrap64 (b5 * b3)) + (wrap64 (b6 * b2)))) (wrap64 (b2 * b3))).bind fun b7=>(some (b7.1,b7.2))
theorem numnahref07_Add.mono:∀ a0 a1 a2 a3 k,LeO (numnahref07_Add.f k a0 a1 a2 a3) (numnahref07_Add.f (k + 1) a0 a1 a2 a3):=by
 intro a0 a1 a2 a3 k;unfold numnahref07_Add.f
 repeat' first
   | (with_reducible exact numnahref07_Reduced.mono _ _ _)
   | (with_reducible exact LeO.refl _)
   | (with_reducible exact LeO.none _)
   | (with_reducible refine LeO.ite ?_ ?_)
   | (with_reducible refine LeO.bind ?_ (fun _=>?_))
   | exact numnahref07_Reduced.mono _ _ _
   | exact LeO.none _
   | refine LeO.ite ?_ ?_
   | refine LeO.bind ?_ (fun _=>?_)
theorem numnahref07_Add.calls (k:Nat) (b5:Int) (b2:Int) (b6:Int) (b3:Int) (r1:Int) (r2:Int) (w:World) (h:numnahref07_Add.f k b5 b2 b6 b3 = some (r1,r2)) :
  Calls Try.prog 28 #[.agg #[.int .i64 b5,.int .i64 b2],.agg #[.int .i64 b6,.int .i64 b3]] w fun e w'=>e = .returned (.agg #[.int .i64 r1,.int .i64 r2]) ∧ Below w.heap.size w w':=by
 have h8:=Try.underlying23;have HB:=A_ (Below.refl w.heap.size w);have H:((numnahref07_Reduced.f k (wrap64 ((wrap64 (b5 * b3)) + (wrap64 (b6 * b2)))) (wrap64 (b2 * b3))).bind fun b7=>(some (b7.1,b7.2))) = some (r1,r2):=h;clear h;replace H:=Option.bind_eq_some_iff.mp H;obtain ⟨⟨d3,d6⟩,A30,H⟩:=H;replace H:(some (d3,d6)) = some (r1,r2):=H;have A3:=A_ A30;clear A30;simp only [Option.some.injEq,Prod.mk.injEq] at H;obtain ⟨rfl,rfl⟩:=H;go_enter Try.func28,Try.ntmps28;go_wp2_with (first | ((with_reducible refine gate_dst (N:=2) rfl ?_);refine box_event ?hg (N:=2) ?hd (cs:=#[.int .i64 b5,.int .i64 b2]) (t:=23) ?hr ?_;(case hd=>rfl);(case hg=>rfl);(case hr=>first | (go_simp;done) | (go_simp;rfl));intro d4 hg w4 hbox hb;have b0:=A_ hbox;have d7:=gw hg HB;have d8:=d7;replace HB:=bB HB hb;clear hb hbox hg) | ((with_reducible refine gate_dst (N:=3) rfl ?_);refine box_event ?hg (N:=3) ?hd (cs:=#[.int .i64 b6,.int .i64 b3]) (t:=23) ?hr ?_;(case hd=>rfl);(case hg=>rfl);(case hr=>first | (go_simp;done) | (go_simp;rfl));intro d5 hg w5 hbox hb;have b1:=A_ hbox;have d9:=gw hg HB;have e0:=d9;have b8:=nl hg b0;have b9:=ng hg b0;replace b0:=kB b0 hb;replace HB:=bB HB hb;clear hb hbox hg) | ((with_reducible refine gate_dst (N:=4) rfl ?_);refine box_event ?hg (N:=4) ?hd (cs:=#[.int .i64 0,.int .i64 0]) (t:=23) ?hr ?_;(case hd=>rfl);(case hg=>rfl);(case hr=>first | (go_simp;done) | (go_simp;rfl));intro d2 hg w6 hbox hb;have b4:=A_ hbox;have e1:=gw hg HB;have e2:=e1;have c0:=nl hg b0;have c1:=ng hg b0;have d0:=nl hg b1;have d1:=ng hg b1;replace b0:=kB b0 hb;replace b1:=kB b1 hb;replace HB:=bB HB hb;clear hb hbox hg;have h9:=b8.out;have i0:=b9.out;have i1:=c0.out;have i2:=c1.out;have h1:w6.cell? ⟨d4,0,none⟩ = some (.int .i64 b5):=cz b0 0;have h2:w6.cell? ⟨d4,1,none⟩ = some (.int .i64 b2):=cz b0 1;have h3:=blk_frozen b0.out 0;have h4:=blk_frozen b0.out 1;have h5:=d0.out;have h6:=d1.out;have e3:w6.cell? ⟨d5,0,none⟩ = some (.int .i64 b6):=cz b1 0;have e4:w6.cell? ⟨d5,1,none⟩ = some (.int .i64 b3):=cz b1 1;have e5:=blk_frozen b1.out 0;have e6:=blk_frozen b1.out 1) | ((with_reducible refine gate_callee (f:=34) rfl ?_);refine goesL_ (some 21) rfl rfl Try.func34 (by kernel_rfl) rfl #[.int .i64 (wrap64 ((wrap64 (b5 * b3)) + (wrap64 (b6 * b2)))),.int .i64 (wrap64 (b2 * b3))] rfl (by (try simp only [List.map_toArray,List.map_cons,List.map_nil]);first | done | rfl | (simp only [List.length_drop,List.length_take];rfl)) ?_;(with_reducible refine (numnahref07_Reduced.calls k (wrap64 ((wrap64 (b5 * b3)) + (wrap64 (b6 * b2)))) (wrap64 (b2 * b3)) d3 d6 _ A3.out).mono ?_);rintro e h7 ⟨rfl,hb⟩;refine ⟨_,rfl,?_⟩;replace b0:=kB b0 hb;replace b1:=kB b1 hb;replace b4:=kB b4 hb;replace HB:=bB HB hb;(try clear hb);have e7:h7.cell? ⟨d2,0,none⟩ = some (.int .i64 0):=cz b4 0;have e8:h7.cell? ⟨d2,1,none⟩ = some (.int .i64 0):=cz b4 1;have e9:=blk_frozen b4.out 0;have h0:=blk_frozen b4.out 1));refine bodyPost_ret (results_cell_row rfl _ _ d2 23 #[.int .i64 d3,.int .i64 d6] (0,0) _ rfl (by (with_reducible repeat (first | refine blk_drewN ?_ _ | refine blk_drew ?_ | refine blk_alloc ?_ _));refine blk_put (cs:=#[.int .i64 d3,.int .i64 0]) ?_ 1 _ rfl;(with_reducible repeat (first | refine blk_drewN ?_ _ | refine blk_drew ?_ | refine blk_alloc ?_ _));refine blk_put (cs:=#[.int .i64 0,.int .i64 0]) ?_ 0 _ rfl;(with_reducible repeat (first | refine blk_drewN ?_ _ | refine blk_drew ?_ | refine blk_alloc ?_ _));exact b4.out) Try.underlying23 rfl (by kernel_rfl)) rfl ?_;exact ⟨by first | rfl | (simp [errW_none,errW_some] <;> rfl) | (simp [*,errW_none,errW_some] <;> rfl),by repeat (first | (with_reducible first | exact HB.out | apply below_alloc | apply pw_below_drewN | apply below_drew1 | refine below_set ?_ d8.out | refine below_set ?_ e0.out | refine below_set ?_ e2.out) | exact HB.out)⟩
def numnahref07_Less.f (b1:Int) (b2:Int) (b3:Int) (b4:Int):Option (Bool):=some (decide ((wrap64 (b1 * b4)) < (wrap64 (b3 * b2))))
theorem numnahref07_Less.calls (b1:Int) (b2:Int) (b3:Int) (b4:Int) (r:Bool) (w:World) (h:numnahref07_Less.f b1 b2 b3 b4 = some r) :
  Calls Try.prog 30 #[.agg #[.int .i64 b1,.int .i64 b2],.agg #[.int .i64 b3,.int .i64 b4]] w fun e w'=>e = .returned (.bool r) ∧ Below w.heap.size w w':=by
 have e0:=Try.underlying23;have HB:=A_ (Below.refl w.heap.size w);have H:(some (decide ((wrap64 (b1 * b4)) < (wrap64 (b3 * b2))))) = some r:=h;clear h;obtain rfl:=Option.some.inj H;go_enter Try.func30,Try.ntmps30;go_wp2_with (first | ((with_reducible refine gate_dst (N:=2) rfl ?_);refine box_event ?hg (N:=2) ?hd (cs:=#[.int .i64 b1,.int .i64 b2]) (t:=23) ?hr ?_;(case hd=>rfl);(case hg=>rfl);(case hr=>first | (go_simp;done) | (go_simp;rfl));intro b8 hg w3 hbox hb;have b0:=A_ hbox;have c0:=gw hg HB;have c1:=c0;replace HB:=bB HB hb;clear hb hbox hg) | ((with_reducible refine gate_dst (N:=3) rfl ?_);refine box_event ?hg (N:=3) ?hd (cs:=#[.int .i64 b3,.int .i64 b4]) (t:=23) ?hr ?_;(case hd=>rfl);(case hg=>rfl);(case hr=>first | (go_simp;done) | (go_simp;rfl));intro b9 hg w4 hbox hb;have b5:=A_ hbox;have d0:=gw hg HB;have d1:=d0;have b6:=nl hg b0;have b7:=ng hg b0;replace b0:=kB b0 hb;replace HB:=bB HB hb;clear hb hbox hg;have e1:=b6.out;have e2:=b7.out;have d2:w4.cell? ⟨b8,0,none⟩ = some (.int .i64 b1):=cz b0 0;have d3:w4.cell? ⟨b8,1,none⟩ = some (.int .i64 b2):=cz b0 1;have d4:=blk_frozen b0.out 0;have d5:=blk_frozen b0.out 1;have d6:w4.cell? ⟨b9,0,none⟩ = some (.int .i64 b3):=cz b5 0;have d7:w4.cell? ⟨b9,1,none⟩ = some (.int .i64 b4):=cz b5 1;have d8:=blk_frozen b5.out 0;have d9:=blk_frozen b5.out 1));go_ret;exact ⟨by first | rfl | (simp [errW_none,errW_some] <;> rfl) | (simp [*,errW_none,errW_some] <;> rfl),by repeat (first | (with_reducible first | exact HB.out | apply below_alloc | apply pw_below_drewN | apply below_drew1 | refine below_set ?_ c1.out | refine below_set ?_ d1.out) | exact HB.out)⟩
def numnahref07_Sub.f (k:Nat) (b5:Int) (b2:Int) (b6:Int) (b3:Int):Option (Int × Int):=(numnahref07_Reduced.f k (wrap64 ((wrap64 (b5 * b3)) - (wrap64 (b6 * b2)))) (wrap64 (b2 * b3))).bind fun b7=>(some (b7.1,b7.2))
theorem numnahref07_Sub.mono:∀ a0 a1 a2 a3 k,LeO (numnahref07_Sub.f k a0 a1 a2 a3) (numnahref07_Sub.f (k + 1) a0 a1 a2 a3):=by
 intro a0 a1 a2 a3 k;unfold numnahref07_Sub.f
 repeat' first
   | (with_reducible exact numnahref07_Reduced.mono _ _ _)
   | (with_reducible exact LeO.refl _)
   | (with_reducible exact LeO.none _)
   | (with_reducible refine LeO.ite ?_ ?_)
   | (with_reducible refine LeO.bind ?_ (fun _=>?_))
   | exact numnahref07_Reduced.mono _ _ _
   | exact LeO.none _
   | refine LeO.ite ?_ ?_
   | refine LeO.bind ?_ (fun _=>?_)
theorem numnahref07_Sub.calls (k:Nat) (b5:Int) (b2:Int) (b6:Int) (b3:Int) (r1:Int) (r2:Int) (w:World) (h:numnahref07_Sub.f k b5 b2 b6 b3 = some (r1,r2)) :
  Calls Try.prog 31 #[.agg #[.int .i64 b5,.int .i64 b2],.agg #[.int .i64 b6,.int .i64 b3]] w fun e w'=>e = .returned (.agg #[.int .i64 r1,.int .i64 r2]) ∧ Below w.heap.size w w':=by
 have h8:=Try.underlying23;have HB:=A_ (Below.refl w.heap.size w);have H:((numnahref07_Reduced.f k (wrap64 ((wrap64 (b5 * b3)) - (wrap64 (b6 * b2)))) (wrap64 (b2 * b3))).bind fun b7=>(some (b7.1,b7.2))) = some (r1,r2):=h;clear h;replace H:=Option.bind_eq_some_iff.mp H;obtain ⟨⟨d3,d6⟩,A30,H⟩:=H;replace H:(some (d3,d6)) = some (r1,r2):=H;have A3:=A_ A30;clear A30;simp only [Option.some.injEq,Prod.mk.injEq] at H;obtain ⟨rfl,rfl⟩:=H;go_enter Try.func31,Try.ntmps31;go_wp2_with (first | ((with_reducible refine gate_dst (N:=2) rfl ?_);refine box_event ?hg (N:=2) ?hd (cs:=#[.int .i64 b5,.int .i64 b2]) (t:=23) ?hr ?_;(case hd=>rfl);(case hg=>rfl);(case hr=>first | (go_simp;done) | (go_simp;rfl));intro d4 hg w4 hbox hb;have b0:=A_ hbox;have d7:=gw hg HB;have d8:=d7;replace HB:=bB HB hb;clear hb hbox hg) | ((with_reducible refine gate_dst (N:=3) rfl ?_);refine box_event ?hg (N:=3) ?hd (cs:=#[.int .i64 b6,.int .i64 b3]) (t:=23) ?hr ?_;(case hd=>rfl);(case hg=>rfl);(case hr=>first | (go_simp;done) | (go_simp;rfl));intro d5 hg w5 hbox hb;have b1:=A_ hbox;have d9:=gw hg HB;have e0:=d9;have b8:=nl hg b0;have b9:=ng hg b0;replace b0:=kB b0 hb;replace HB:=bB HB hb;clear hb hbox hg) | ((with_reducible refine gate_dst (N:=4) rfl ?_);refine box_event ?hg (N:=4) ?hd (cs:=#[.int .i64 0,.int .i64 0]) (t:=23) ?hr ?_;(case hd=>rfl);(case hg=>rfl);(case hr=>first | (go_simp;done) | (go_simp;rfl));intro d2 hg w6 hbox hb;have b4:=A_ hbox;have e1:=gw hg HB;have e2:=e1;have c0:=nl hg b0;have c1:=ng hg b0;have d0:=nl hg b1;have d1:=ng hg b1;replace b0:=kB b0 hb;replace b1:=kB b1 hb;replace HB:=bB HB hb;clear hb hbox hg;have h9:=b8.out;have i0:=b9.out;have i1:=c0.out;have i2:=c1.out;have h1:w6.cell? ⟨d4,0,none⟩ = some (.int .i64 b5):=cz b0 0;have h2:w6.cell? ⟨d4,1,none⟩ = some (.int .i64 b2):=cz b0 1;have h3:=blk_frozen b0.out 0;have h4:=blk_frozen b0.out 1;have h5:=d0.out;have h6:=d1.out;have e3:w6.cell? ⟨d5,0,none⟩ = some (.int .i64 b6):=cz b1 0;have e4:w6.cell? ⟨d5,1,none⟩ = some (.int .i64 b3):=cz b1 1;have e5:=blk_frozen b1.out 0;have e6:=blk_frozen b1.out 1) | ((with_reducible refine gate_callee (f:=34) rfl ?_);refine goesL_ (some 21) rfl rfl Try.func34 (by kernel_rfl) rfl #[.int .i64 (wrap64 ((wrap64 (b5 * b3)) - (wrap64 (b6 * b2)))),.int .i64 (wrap64 (b2 * b3))] rfl (by (try simp only [List.map_toArray,List.map_cons,List.map_nil]);first | done | rfl | (simp only [List.length_drop,List.length_take];rfl)) ?_;(with_reducible refine (numnahref07_Reduced.calls k (wrap64 ((wrap64 (b5 * b3)) - (wrap64 (b6 * b2)))) (wrap64 (b2 * b3)) d3 d6 _ A3.out).mono ?_);rintro e h7 ⟨rfl,hb⟩;refine ⟨_,rfl,?_⟩;replace b0:=kB b0 hb;replace b1:=kB b1 hb;replace b4:=kB b4 hb;replace HB:=bB HB hb;(try clear hb);have e7:h7.cell? ⟨d2,0,none⟩ = some (.int .i64 0):=cz b4 0;have e8:h7.cell? ⟨d2,1,none⟩ = some (.int .i64 0):=cz b4 1;have e9:=blk_frozen b4.out 0;have h0:=blk_frozen b4.out 1));refine bodyPost_ret (results_cell_row rfl _ _ d2 23 #[.int .i64 d3,.int .i64 d6] (0,0) _ rfl (by (with_reducible repeat (first | refine blk_drewN ?_ _ | refine blk_drew ?_ | refine blk_alloc ?_ _));refine blk_put (cs:=#[.int .i64 d3,.int .i64 0]) ?_ 1 _ rfl;(with_reducible repeat (first | refine blk_drewN ?_ _ | refine blk_drew ?_ | refine blk_alloc ?_ _));refine blk_put (cs:=#[.int .i64 0,.int .i64 0]) ?_ 0 _ rfl;(with_reducible repeat (first | refine blk_drewN ?_ _ | refine blk_drew ?_ | refine blk_alloc ?_ _));exact b4.out) Try.underlying23 rfl (by kernel_rfl)) rfl ?_;exact ⟨by first | rfl | (simp [errW_none,errW_some] <;> rfl) | (simp [*,errW_none,errW_some] <;> rfl),by repeat (first | (with_reducible first | exact HB.out | apply below_alloc | apply pw_below_drewN | apply below_drew1 | refine below_set ?_ d8.out | refine below_set ?_ e0.out | refine below_set ?_ e2.out) | exact HB.out)⟩
def numnahref07_Half.f (k:Nat) (b2:Int) (b3:Int):Option (Int × Int):=(numnahref07_Reduced.f k b2 (wrap64 (2 * b3))).bind fun b6=>(some (b6.1,b6.2))
theorem numnahref07_Half.mono:∀ a0 a1 k,LeO (numnahref07_Half.f k a0 a1) (numnahref07_Half.f (k + 1) a0 a1):=by
 intro a0 a1 k;unfold numnahref07_Half.f
 repeat' first
   | (with_reducible exact numnahref07_Reduced.mono _ _ _)
   | (with_reducible exact LeO.refl _)
   | (with_reducible exact LeO.none _)
   | (with_reducible refine LeO.ite ?_ ?_)
   | (with_reducible refine LeO.bind ?_ (fun _=>?_))
   | exact numnahref07_Reduced.mono _ _ _
   | exact LeO.none _
   | refine LeO.ite ?_ ?_
   | refine LeO.bind ?_ (fun _=>?_)
theorem numnahref07_Half.calls (k:Nat) (b2:Int) (b3:Int) (r1:Int) (r2:Int) (w:World) (h:numnahref07_Half.f k b2 b3 = some (r1,r2)) :
  Calls Try.prog 67 #[.agg #[.int .i64 b2,.int .i64 b3]] w fun e w'=>e = .returned (.agg #[.int .i64 r1,.int .i64 r2]) ∧ Below w.heap.size w w':=by
 have e8:=Try.underlying23;have HB:=Aside0.mk (Below.refl w.heap.size w);have H:((numnahref07_Reduced.f k b2 (wrap64 (2 * b3))).bind fun b6=>(some (b6.1,b6.2))) = some (r1,r2):=h;clear h;replace H:=Option.bind_eq_some_iff.mp H;obtain ⟨⟨c0,d3⟩,A20,H⟩:=H;replace H:(some (c0,d3)) = some (r1,r2):=H;have A2:=Aside0.mk A20;clear A20;simp only [Option.some.injEq,Prod.mk.injEq] at H;obtain ⟨rfl,rfl⟩:=H;go_enter Try.func67,Try.ntmps67;go_wp2_with (first | ((with_reducible refine gate_dst (N:=1) rfl ?_);refine box_event ?hg (N:=1) ?hd (cs:=#[.int .i64 b2,.int .i64 b3]) (t:=23) ?hr ?_;(case hd=>rfl);(case hg=>rfl);(case hr=>first | (go_simp;done) | (go_simp;rfl));intro b1 hg w3 hbox hb;have c1:=Aside0.mk (below_step (by repeat (first | (with_reducible first | exact HB.out | apply below_alloc | apply pw_below_drewN | apply below_drew1) | exact HB.out)) hb);have d0:=Aside0.mk (hbox);have d1:=Aside0.mk ((by rw [hg];exact (below_size (by repeat (first | (with_reducible first | exact HB.out | apply below_alloc | apply pw_below_drewN | apply below_drew1) | exact HB.out))):w.heap.size ≤ b1));have d4:=Aside0.mk ((by rw [hg];exact (below_size (by repeat (first | (with_reducible first | exact HB.out | apply below_alloc | apply pw_below_drewN | apply below_drew1) | exact HB.out))):w.heap.size ≤ b1));clear HB;have HB:=c1;have b0:=d0;have e3:=d1;have b7:=d4;clear c1 d0 d1 d4;clear hb hbox hg) | ((with_reducible refine gate_dst (N:=2) rfl ?_);refine box_event ?hg (N:=2) ?hd (cs:=#[.int .i64 0,.int .i64 0]) (t:=23) ?hr ?_;(case hd=>rfl);(case hg=>rfl);(case hr=>first | (go_simp;done) | (go_simp;rfl));intro b4 hg w4 hbox hb;have c1:=Aside0.mk (blk_below (g:=b1) (o:=.cells #[.int .i64 b2,.int .i64 b3] 23 (0,0)) (by (with_reducible repeat (first | refine blk_drewN ?_ _ | refine blk_drew ?_ | refine blk_alloc ?_ _));exact b0.out) hb);have d0:=Aside0.mk (below_step (by repeat (first | (with_reducible first | exact HB.out | apply below_alloc | apply pw_below_drewN | apply below_drew1 | refine below_set ?_ b7.out) | exact HB.out)) hb);have d1:=Aside0.mk (hbox);have d4:=Aside0.mk ((by rw [hg];exact (below_size (by repeat (first | (with_reducible first | exact HB.out | apply below_alloc | apply pw_below_drewN | apply below_drew1 | refine below_set ?_ b7.out) | exact HB.out))):w.heap.size ≤ b4));have e4:=Aside0.mk ((by rw [hg];exact (below_size (by repeat (first | (with_reducible first | exact HB.out | apply below_alloc | apply pw_below_drewN | apply below_drew1 | refine below_set ?_ b7.out) | exact HB.out))):w.heap.size ≤ b4));have e5:=Aside0.mk ((by rw [hg];exact Nat.ne_of_lt (blk_lt (g:=b1) (o:=.cells #[.int .i64 b2,.int .i64 b3] 23 (0,0)) (by (with_reducible repeat (first | refine blk_drewN ?_ _ | refine blk_drew ?_ | refine blk_alloc ?_ _));exact b0.out)):b1 ≠ b4));have e6:=Aside0.mk ((by rw [hg];exact Nat.ne_of_gt (blk_lt (g:=b1) (o:=.cells #[.int .i64 b2,.int .i64 b3] 23 (0,0)) (by (with_reducible repeat (first | refine blk_drewN ?_ _ | refine blk_drew ?_ | refine blk_alloc ?_ _));exact b0.out)):b4 ≠ b1));clear b0;clear HB;have b0:=c1;have HB:=d0;have b5:=d1;have e7:=d4;have d2:=e4;have b8:=e5;have b9:=e6;clear c1 d0 d1 d4 e4 e5 e6;clear hb hbox hg;have e9:=b8.out;have h0:=b9.out;have d5:w4.cell? ⟨b1,0,none⟩ = some (.int .i64 b2):=(blk_cell b0.out 0).trans rfl;have d6:w4.cell? ⟨b1,1,none⟩ = some (.int .i64 b3):=(blk_cell b0.out 1).trans rfl;have d7:=blk_frozen b0.out 0;have d8:=blk_frozen b0.out 1) | ((with_reducible refine gate_callee (f:=34) rfl ?_);refine goesL_ (some 8) rfl rfl Try.func34 (by kernel_rfl) rfl #[.int .i64 b2,.int .i64 (wrap64 (2 * b3))] rfl (by (try simp only [List.map_toArray,List.map_cons,List.map_nil]);first | done | rfl | (simp only [List.length_drop,List.length_take];rfl)) ?_;(with_reducible refine (numnahref07_Reduced.calls k b2 (wrap64 (2 * b3)) c0 d3 _ A2.out).mono ?_);rintro e w7 ⟨rfl,hb⟩;refine ⟨_,rfl,?_⟩;have c1:=Aside0.mk (blk_below (g:=b1) (o:=.cells #[.int .i64 b2,.int .i64 b3] 23 (0,0)) (by (with_reducible repeat (first | refine blk_drewN ?_ _ | refine blk_drew ?_ | refine blk_alloc ?_ _));exact b0.out) hb);have d0:=Aside0.mk (blk_below (g:=b4) (o:=.cells #[.int .i64 0,.int .i64 0] 23 (0,0)) (by (with_reducible repeat (first | refine blk_drewN ?_ _ | refine blk_drew ?_ | refine blk_alloc ?_ _));exact b5.out) hb);have d1:=Aside0.mk (below_step (by repeat (first | (with_reducible first | exact HB.out | apply below_alloc | apply pw_below_drewN | apply below_drew1 | refine below_set ?_ b7.out | refine below_set ?_ d2.out) | exact HB.out)) hb);clear b0;clear b5;clear HB;have b0:=c1;have b5:=d0;have HB:=d1;clear c1 d0 d1;(try clear hb);have d9:w7.cell? ⟨b4,0,none⟩ = some (.int .i64 0):=(blk_cell b5.out 0).trans rfl;have e0:w7.cell? ⟨b4,1,none⟩ = some (.int .i64 0):=(blk_cell b5.out 1).trans rfl;have e1:=blk_frozen b5.out 0;have e2:=blk_frozen b5.out 1));refine bodyPost_ret (results_cell_row rfl _ _ b4 23 #[.int .i64 c0,.int .i64 d3] (0,0) _ rfl (by (with_reducible repeat (first | refine blk_drewN ?_ _ | refine blk_drew ?_ | refine blk_alloc ?_ _));refine blk_put (cs:=#[.int .i64 c0,.int .i64 0]) ?_ 1 _ rfl;(with_reducible repeat (first | refine blk_drewN ?_ _ | refine blk_drew ?_ | refine blk_alloc ?_ _));refine blk_put (cs:=#[.int .i64 0,.int .i64 0]) ?_ 0 _ rfl;(with_reducible repeat (first | refine blk_drewN ?_ _ | refine blk_drew ?_ | refine blk_alloc ?_ _));exact b5.out) Try.underlying23 rfl (by kernel_rfl)) rfl ?_;exact ⟨by first | rfl | (simp [errW_none,errW_some] <;> rfl) | (simp [*,errW_none,errW_some] <;> rfl),by repeat (first | (with_reducible first | exact HB.out | apply below_alloc | apply pw_below_drewN | apply below_drew1 | refine below_set ?_ b7.out | refine below_set ?_ d2.out) | exact HB.out)⟩
def numnahref07_Within.f (k:Nat) (b1:Int) (b2:Int) (a1:Int) (a2:Int) (a3:Int):Option (Bool):=if b2 ≥ 1 then (if b2 ≤ a3 then (if b1 ≥ a1 then (if b1 ≤ a2 then ((numnahref07_gcd.f k (mx b1 (wrap64 (-b1))) b2).bind fun b6=>(some (b6 == 1))) else (some false)) else (some false)) else (some false)) else (some false)
theorem numnahref07_Within.mono:∀ a0 a1 a2 a3 a4 k,LeO (numnahref07_Within.f k a0 a1 a2 a3 a4) (numnahref07_Within.f (k + 1) a0 a1 a2 a3 a4):=by
 intro a0 a1 a2 a3 a4 k;unfold numnahref07_Within.f
 repeat' first
   | (with_reducible exact numnahref07_gcd.mono _ _ _)
   | (with_reducible exact LeO.refl _)
   | (with_reducible exact LeO.none _)
   | (with_reducible refine LeO.ite ?_ ?_)
   | (with_reducible refine LeO.bind ?_ (fun _=>?_))
   | exact numnahref07_gcd.mono _ _ _
   | exact LeO.none _
   | refine LeO.ite ?_ ?_
   | refine LeO.bind ?_ (fun _=>?_)
theorem numnahref07_Within.calls (k:Nat) (b1:Int) (b2:Int) (a1:Int) (a2:Int) (a3:Int) (r:Bool) (w:World) (h:numnahref07_Within.f k b1 b2 a1 a2 a3 = some r) :
  Calls Try.prog 69 #[.agg #[.int .i64 b1,.int .i64 b2],.int .i64 a1,.int .i64 a2,.int .i64 a3] w fun e w'=>e = .returned (.bool r) ∧ Below w.heap.size w w':=by
 have h8:=Try.underlying23;have HB:=A_ (Below.refl w.heap.size w);have H:(if b2 ≥ 1 then (if b2 ≤ a3 then (if b1 ≥ a1 then (if b1 ≤ a2 then ((numnahref07_gcd.f k (mx b1 (wrap64 (-b1))) b2).bind fun b6=>(some (b6 == 1))) else (some false)) else (some false)) else (some false)) else (some false)) = some r:=h;clear h;by_cases c5:b2 ≥ 1
 case neg =>
  rw [if_neg c5] at H;have e7:decide (1 ≤ b2) = false:=decide_eq_false c5;clear c5;obtain rfl:=Option.some.inj H;go_enter Try.func69,Try.ntmps69;go_wp2_with (first | ((with_reducible refine gate_dst (N:=4) rfl ?_);(try (refine gate_guard (by rfl) ?_;dsimp only));refine box_event ?hg (N:=4) ?hd (cs:=#[.int .i64 b1,.int .i64 b2]) (t:=23) ?hr ?_;(case hd=>rfl);(case hg=>rfl);(case hr=>first | (go_simp;done) | (go_simp;rfl));intro b3 hg h2 hbox hb;have b0:=A_ hbox;have b4:=gw hg HB;have b5:=b4;replace HB:=bB HB hb;clear hb hbox hg;have b9:h2.cell? ⟨b3,0,none⟩ = some (.int .i64 b1):=cz b0 0;have c0:h2.cell? ⟨b3,1,none⟩ = some (.int .i64 b2):=cz b0 1;have c1:=blk_frozen b0.out 0;have d0:=blk_frozen b0.out 1));go_ret;exact ⟨rfl,by repeat (first | (with_reducible first | exact HB.out | apply below_alloc | apply pw_below_drewN | apply below_drew1 | refine below_set ?_ b5.out) | exact HB.out)⟩
 rw [if_pos c5] at H;have e7:decide (1 ≤ b2) = true:=decide_eq_true c5;clear c5;by_cases c6:b2 ≤ a3
 case neg =>
  rw [if_neg c6] at H;have e8:decide (b2 ≤ a3) = false:=decide_eq_false c6;clear c6;obtain rfl:=Option.some.inj H;go_enter Try.func69,Try.ntmps69;go_wp2_with (first | ((with_reducible refine gate_dst (N:=4) rfl ?_);(try (refine gate_guard (by rfl) ?_;dsimp only));refine box_event ?hg (N:=4) ?hd (cs:=#[.int .i64 b1,.int .i64 b2]) (t:=23) ?hr ?_;(case hd=>rfl);(case hg=>rfl);(case hr=>first | (go_simp;done) | (go_simp;rfl));intro b3 hg h3 hbox hb;have b0:=A_ hbox;have b4:=gw hg HB;have b5:=b4;replace HB:=bB HB hb;clear hb hbox hg;have d1:h3.cell? ⟨b3,0,none⟩ = some (.int .i64 b1):=cz b0 0;have d2:h3.cell? ⟨b3,1,none⟩ = some (.int .i64 b2):=cz b0 1;have d3:=blk_frozen b0.out 0;have d4:=blk_frozen b0.out 1));go_ret;exact ⟨rfl,by repeat (first | (with_reducible first | exact HB.out | apply below_alloc | apply pw_below_drewN | apply below_drew1 | refine below_set ?_ b5.out) | exact HB.out)⟩
 rw [if_pos c6] at H;have e8:decide (b2 ≤ a3) = true:=decide_eq_true c6;clear c6;by_cases c7:b1 ≥ a1
 case neg =>
  rw [if_neg c7] at H;have e9:decide (a1 ≤ b1) = false:=decide_eq_false c7;clear c7;obtain rfl:=Option.some.inj H;go_enter Try.func69,Try.ntmps69;go_wp2_with (first | ((with_reducible refine gate_dst (N:=4) rfl ?_);(try (refine gate_guard (by rfl) ?_;dsimp only));refine box_event ?hg (N:=4) ?hd (cs:=#[.int .i64 b1,.int .i64 b2]) (t:=23) ?hr ?_;(case hd=>rfl);(case hg=>rfl);(case hr=>first | (go_simp;done) | (go_simp;rfl));intro b3 hg h4 hbox hb;have b0:=A_ hbox;have b4:=gw hg HB;have b5:=b4;replace HB:=bB HB hb;clear hb hbox hg;have d5:h4.cell? ⟨b3,0,none⟩ = some (.int .i64 b1):=cz b0 0;have d6:h4.cell? ⟨b3,1,none⟩ = some (.int .i64 b2):=cz b0 1;have d7:=blk_frozen b0.out 0;have d8:=blk_frozen b0.out 1));go_ret;exact ⟨rfl,by repeat (first | (with_reducible first | exact HB.out | apply below_alloc | apply pw_below_drewN | apply below_drew1 | refine below_set ?_ b5.out) | exact HB.out)⟩
 rw [if_pos c7] at H;have e9:decide (a1 ≤ b1) = true:=decide_eq_true c7;clear c7;by_cases c8:b1 ≤ a2
 case neg =>
  rw [if_neg c8] at H;have h0:decide (b1 ≤ a2) = false:=decide_eq_false c8;clear c8;obtain rfl:=Option.some.inj H;go_enter Try.func69,Try.ntmps69;go_wp2_with (first | ((with_reducible refine gate_dst (N:=4) rfl ?_);(try (refine gate_guard (by rfl) ?_;dsimp only));refine box_event ?hg (N:=4) ?hd (cs:=#[.int .i64 b1,.int .i64 b2]) (t:=23) ?hr ?_;(case hd=>rfl);(case hg=>rfl);(case hr=>first | (go_simp;done) | (go_simp;rfl));intro b3 hg h5 hbox hb;have b0:=A_ hbox;have b4:=gw hg HB;have b5:=b4;replace HB:=bB HB hb;clear hb hbox hg;have d9:h5.cell? ⟨b3,0,none⟩ = some (.int .i64 b1):=cz b0 0;have e0:h5.cell? ⟨b3,1,none⟩ = some (.int .i64 b2):=cz b0 1;have e1:=blk_frozen b0.out 0;have e2:=blk_frozen b0.out 1));go_ret;exact ⟨rfl,by repeat (first | (with_reducible first | exact HB.out | apply below_alloc | apply pw_below_drewN | apply below_drew1 | refine below_set ?_ b5.out) | exact HB.out)⟩
 rw [if_pos c8] at H;have h0:decide (b1 ≤ a2) = true:=decide_eq_true c8;clear c8;obtain ⟨h1,b7⟩:∃ j_:Int,(mx b1 (wrap64 (-b1))) = j_:=⟨_,rfl⟩
 replace H:((numnahref07_gcd.f k (h1) b2).bind fun b6=>(some (b6 == 1))) = some r:=by first | (rw [b7] at H;exact H) | (simp only [b7] at H ⊢;exact H)
 have h6:(if b1 < (wrap64 (-b1)) then (wrap64 (-b1)) else b1) = h1:=b7;replace H:=Option.bind_eq_some_iff.mp H;obtain ⟨b6,b8,H⟩:=H;replace H:(some (b6 == 1)) = some r:=H;have h9:=A_ b8;clear b8;obtain rfl:=Option.some.inj H;go_enter Try.func69,Try.ntmps69;go_wp2_with (first | ((with_reducible refine gate_dst (N:=4) rfl ?_);(try (refine gate_guard (by rfl) ?_;dsimp only));refine box_event ?hg (N:=4) ?hd (cs:=#[.int .i64 b1,.int .i64 b2]) (t:=23) ?hr ?_;(case hd=>rfl);(case hg=>rfl);(case hr=>first | (go_simp;done) | (go_simp;rfl));intro b3 hg h7 hbox hb;have b0:=A_ hbox;have b4:=gw hg HB;have b5:=b4;replace HB:=bB HB hb;clear hb hbox hg;have e3:h7.cell? ⟨b3,0,none⟩ = some (.int .i64 b1):=cz b0 0;have e4:h7.cell? ⟨b3,1,none⟩ = some (.int .i64 b2):=cz b0 1;have e5:=blk_frozen b0.out 0;have e6:=blk_frozen b0.out 1) | (go_at_call 73;(with_reducible refine (numnahref07_gcd.calls k h1 b2 b6 _ h9.out).mono ?_);rintro e w' ⟨rfl,⟨nd,rfl⟩⟩));go_ret;exact ⟨by first | rfl | (simp [errW_none,errW_some] <;> rfl) | (simp only [← b7];first | rfl | (simp [errW_none,errW_some] <;> rfl)) | (simp [*,errW_none,errW_some] <;> rfl),by repeat (first | (with_reducible first | exact HB.out | apply below_alloc | apply pw_below_drewN | apply below_drew1 | refine below_set ?_ b5.out) | exact HB.out)⟩
end Go.Proofs.Ytjohcjfmlhihbaa.G
namespace Go.Proofs.Ytjohcjfmlhihbaa.P
open Go Go.RowKit Go.Proofs.Ytjohcjfmlhihbaa.G
open Go.Proofs.YtjohcjfmlhihbaaW.PrintWords Go.Proofs.YtjohcjfmlhihbaaW.PrintMore
theorem wrap_id {x:Int} (h0:-9223372036854775808 ≤ x) (h1:x ≤ 9223372036854775807):wrap64 x = x:=by unfold wrap64;omega
theorem wrap_abs {x:Int} (h:x.natAbs < 9223372036854775808):wrap64 x = x:=by unfold wrap64;omega
theorem wrap_nat {x:Nat} (h:x < 9223372036854775808):wrap64 (x:Int) = (x:Int):=by unfold wrap64;omega
theorem ref_gcd_l:∀ k a b,numnahref07_gcd.l0 k a b = shares_gcd.l0 k a b
 | 0,_,_=>rfl
 | k + 1,a,b=>by rw [numnahref07_gcd.l0,shares_gcd.l0,ref_gcd_l k]
theorem ref_gcd (k:Nat) (a b:Int):numnahref07_gcd.f k a b = shares_gcd.f k a b:=ref_gcd_l k a b
theorem ref_reduced (k:Nat) (a b:Int):numnahref07_Reduced.f k a b = shares_frac.f k a b:=by unfold numnahref07_Reduced.f shares_frac.f;rw [ref_gcd]
theorem gcd_l0:∀ (k a b:Nat),b < k → shares_gcd.l0 k (a:Int) (b:Int) = some ((Nat.gcd a b:Nat):Int)
 | k + 1,a,b,h=>by
  rw [shares_gcd.l0]
  by_cases h0:(b:Int) > 0
  ·rw [if_pos h0,if_neg (by omega)]
   have hm:Int.tmod (a:Int) (b:Int) = ((a % b:Nat):Int):=by
    rw [Int.tmod_eq_emod_of_nonneg (by omega)];rfl
   have hb:0 < b:=by omega
   have hlt:=Nat.mod_lt a hb
   rw [hm,gcd_l0 k b (a % b) (by omega),Nat.gcd_comm a b,Nat.gcd_rec b a,Nat.gcd_comm]
  ·rw [if_neg h0]
   have hb:b = 0:=by omega
   subst hb
   rw [Nat.gcd_zero_right]
theorem ev_gcd (a b:Nat):Ev (fun k=>shares_gcd.f k (a:Int) (b:Int)) ((Nat.gcd a b:Nat):Int):=⟨b + 1,fun k hk=>gcd_l0 k a b (by omega)⟩
theorem mx_abs {n:Int} (h:n.natAbs < 9223372036854775808):mx n (wrap64 (-n)) = (n.natAbs:Int):=by
 rw [wrap_abs (by rw [Int.natAbs_neg];exact h)]
 unfold mx
 split <;> omega
theorem ev_frac (n:Int) (d:Nat) (hd:0 < d) (hn:n.natAbs < 9223372036854775808) (hd2:d < 9223372036854775808):Ev (fun k=>shares_frac.f k n (d:Int)) ((mkRat n d).num,((mkRat n d).den:Int)):=by
 unfold shares_frac.f
 rw [mx_abs hn]
 refine Ev.bind (ev_gcd n.natAbs d) ?_
 have hg:Nat.gcd n.natAbs d ≠ 0:=fun e=>by have:=Nat.eq_zero_of_gcd_eq_zero_right e;omega
 refine Ev.congr (fun k=>if_neg (by omega)) ?_
 rw [red_num n (by omega),red_den n (by omega)]
 have h1:=num_le n d
 have h2:=den_le (n:=n) (d:=d) (by omega)
 rw [wrap_abs (by omega),wrap_nat (by omega)]
 exact Ev.now _
theorem ev_add {p q:Rat} (h:Fits p q):Ev (fun k=>shares_add.f k p.num (p.den:Int) q.num (q.den:Int)) ((p + q).num,((p + q).den:Int)):=by
 unfold shares_add.f
 refine Ev.bind (ev_gcd p.den q.den) ?_
 have hp:=den_pos p
 have hq:=den_pos q
 have h1:=h.num
 have h2:=h.den
 obtain ⟨g,hg⟩:∃ g,g = Nat.gcd p.den q.den:=⟨_,rfl⟩
 have hs:=add_small p q g hg
 have g1:g ∣ p.den:=by rw [hg];exact Nat.gcd_dvd_left _ _
 have g2:g ∣ q.den:=by rw [hg];exact Nat.gcd_dvd_right _ _
 have g0:0 < g:=Nat.pos_of_dvd_of_pos g1 hp
 rw [← hg]
 refine Ev.congr (fun k=>if_neg (by omega)) ?_
 rw [tdiv_nat,tdiv_nat]
 have hpd:p.den / g ≤ p.den:=Nat.div_le_self _ _
 have hqd:q.den / g ≤ q.den:=Nat.div_le_self _ _
 have hp1:1 ≤ p.den / g:=Nat.div_pos (Nat.le_of_dvd hp g1) g0
 have hpD:p.den ≤ p.den * q.den:=Nat.le_mul_of_pos_right _ hq
 have hqD:q.den ≤ p.den * q.den:=Nat.le_mul_of_pos_left _ hp
 rw [wrap_nat (by omega:q.den / g < _),wrap_nat (by omega:p.den / g < _)]
 have a1:(p.num * ((q.den / g:Nat):Int)).natAbs ≤ p.num.natAbs * q.den:=by
  rw [Int.natAbs_mul,Int.natAbs_natCast];exact Nat.mul_le_mul_left _ hqd
 have a2:(q.num * ((p.den / g:Nat):Int)).natAbs ≤ q.num.natAbs * p.den:=by
  rw [Int.natAbs_mul,Int.natAbs_natCast];exact Nat.mul_le_mul_left _ hpd
 have a3:p.den / g * q.den ≤ p.den * q.den:=Nat.mul_le_mul_right _ hpd
 rw [wrap_abs (by omega:(p.num * ((q.den / g:Nat):Int)).natAbs < _),wrap_abs (by omega:(q.num * ((p.den / g:Nat):Int)).natAbs < _)]
 have a4:=Int.natAbs_add_le (p.num * ((q.den / g:Nat):Int)) (q.num * ((p.den / g:Nat):Int))
 rw [wrap_abs (by omega:(p.num * ((q.den / g:Nat):Int) + q.num * ((p.den / g:Nat):Int)).natAbs < _)]
 have e:((p.den / g:Nat):Int) * (q.den:Int) = ((p.den / g * q.den:Nat):Int):=by push_cast;rfl
 rw [e,wrap_nat (by omega:p.den / g * q.den < _)]
 have hpos:0 < p.den / g * q.den:=Nat.mul_pos hp1 hq
 refine Ev.bind (ev_frac _ _ hpos (by omega) (by omega)) ?_
 rw [hs]
 exact Ev.now _
theorem ev_minus {p q:Rat} (h:Fits p q):Ev (fun k=>shares_minus.f k p.num (p.den:Int) q.num (q.den:Int)) ((p - q).num,((p - q).den:Int)):=by
 unfold shares_minus.f
 have h1:=h.num
 have h2:=den_pos p
 have h3:q.num.natAbs ≤ q.num.natAbs * p.den:=Nat.le_mul_of_pos_right _ h2
 have e:wrap64 (-q.num) = (-q).num:=by rw [Rat.neg_num,wrap_abs (by rw [Int.natAbs_neg];omega)]
 rw [e]
 refine Ev.bind (a:=((p + -q).num,((p + -q).den:Int))) ?_ (by rw [sub_neg];exact Ev.now _)
 have:=ev_add (p:=p) (q:=-q) h.neg
 rw [Rat.neg_den] at this
 exact this
theorem ev_over (q:Rat) {n:Nat} (hn:0 < n) (h1:q.num.natAbs < 9223372036854775808) (h2:q.den * n < 9223372036854775808):Ev (fun k=>shares_over.f k q.num (q.den:Int) (n:Int)) ((q / (n:Rat)).num,((q / (n:Rat)).den:Int)):=by
 unfold shares_over.f
 have e:(q.den:Int) * (n:Int) = ((q.den * n:Nat):Int):=by push_cast;rfl
 rw [e,wrap_nat h2]
 refine Ev.bind (ev_frac _ _ (Nat.mul_pos (den_pos q) hn) h1 h2) ?_
 rw [mk_over q hn]
 exact Ev.now _
def cmpR (p q:Rat):Int:=if p < q then -1 else if q < p then 1 else 0
theorem cmpR_le (p q:Rat):cmpR p q ≤ 0 ↔ p ≤ q:=by
 unfold cmpR
 split
 ·constructor <;> intro _ <;> grind
 ·split
  ·constructor <;> intro _ <;> grind
  ·constructor <;> intro _ <;> grind
theorem cmpR_lt (p q:Rat):cmpR p q < 0 ↔ p < q:=by
 unfold cmpR
 split
 ·constructor <;> intro _ <;> grind
 ·split
  ·constructor <;> intro _ <;> grind
  ·constructor <;> intro _ <;> grind
theorem ev_compare {p q:Rat} (h:Fits p q):Ev (fun k=>shares_compare.f k p.num (p.den:Int) q.num (q.den:Int)) (cmpR p q):=by
 unfold shares_compare.f
 refine Ev.bind (ev_minus h) ?_
 unfold cmp_Compare_int.f cmp_isNaN_int.f
 simp only [Option.bind_some,bne_self_eq_false]
 rw [if_neg (by decide),if_neg (by decide)]
 unfold cmpR
 by_cases h1:p < q
 ·rw [if_pos ((sign_lt p q).2 h1),if_pos h1];exact Ev.now _
 ·rw [if_neg (fun e=>h1 ((sign_lt p q).1 e)),if_neg h1]
  by_cases h2:q < p
  ·rw [if_pos ((sign_gt p q).2 h2),if_pos h2];exact Ev.now _
  ·rw [if_neg (fun e=>h2 ((sign_gt p q).1 e)),if_neg h2];exact Ev.now _
theorem ev_smaller {p q:Rat} (h:Fits p q):Ev (fun k=>shares_smaller.f k p.num (p.den:Int) q.num (q.den:Int)) ((min p q).num,((min p q).den:Int)):=by
 unfold shares_smaller.f
 refine Ev.bind (ev_compare h) ?_
 rw [Rat.min_def]
 by_cases hpq:p ≤ q
 ·rw [if_pos ((cmpR_le p q).2 hpq),if_pos hpq];exact Ev.now _
 ·rw [if_neg (fun e=>hpq ((cmpR_le p q).1 e)),if_neg hpq];exact Ev.now _
theorem mk_add (p q:Rat):mkRat (p.num * (q.den:Int) + q.num * (p.den:Int)) (p.den * q.den) = p + q:=(Rat.add_def' p q).symm
theorem ev_radd {p q:Rat} (h:Fits p q):Ev (fun k=>numnahref07_Add.f k p.num (p.den:Int) q.num (q.den:Int)) ((p + q).num,((p + q).den:Int)):=by
 unfold numnahref07_Add.f
 have hp:=den_pos p
 have hq:=den_pos q
 have h1:=h.num
 have h2:=h.den
 have a1:(p.num * (q.den:Int)).natAbs = p.num.natAbs * q.den:=by rw [Int.natAbs_mul,Int.natAbs_natCast]
 have a2:(q.num * (p.den:Int)).natAbs = q.num.natAbs * p.den:=by rw [Int.natAbs_mul,Int.natAbs_natCast]
 have a4:=Int.natAbs_add_le (p.num * (q.den:Int)) (q.num * (p.den:Int))
 rw [wrap_abs (by omega:(p.num * (q.den:Int)).natAbs < _),wrap_abs (by omega:(q.num * (p.den:Int)).natAbs < _),wrap_abs (by omega:(p.num * (q.den:Int) + q.num * (p.den:Int)).natAbs < _)]
 have e:(p.den:Int) * (q.den:Int) = ((p.den * q.den:Nat):Int):=by push_cast;rfl
 rw [e,wrap_nat h2]
 simp only [ref_reduced]
 refine Ev.bind (ev_frac _ _ (Nat.mul_pos hp hq) (by omega) h2) ?_
 rw [mk_add]
 exact Ev.now _
theorem ev_rsub {p q:Rat} (h:Fits p q):Ev (fun k=>numnahref07_Sub.f k p.num (p.den:Int) q.num (q.den:Int)) ((p - q).num,((p - q).den:Int)):=by
 unfold numnahref07_Sub.f
 have hp:=den_pos p
 have hq:=den_pos q
 have h1:=h.num
 have h2:=h.den
 have a1:(p.num * (q.den:Int)).natAbs = p.num.natAbs * q.den:=by rw [Int.natAbs_mul,Int.natAbs_natCast]
 have a2:(q.num * (p.den:Int)).natAbs = q.num.natAbs * p.den:=by rw [Int.natAbs_mul,Int.natAbs_natCast]
 have a4:(p.num * (q.den:Int) - q.num * (p.den:Int)).natAbs ≤ (p.num * (q.den:Int)).natAbs + (q.num * (p.den:Int)).natAbs:=by omega
 rw [wrap_abs (by omega:(p.num * (q.den:Int)).natAbs < _),wrap_abs (by omega:(q.num * (p.den:Int)).natAbs < _),wrap_abs (by omega:(p.num * (q.den:Int) - q.num * (p.den:Int)).natAbs < _)]
 have e:(p.den:Int) * (q.den:Int) = ((p.den * q.den:Nat):Int):=by push_cast;rfl
 rw [e,wrap_nat h2]
 simp only [ref_reduced]
 refine Ev.bind (ev_frac _ _ (Nat.mul_pos hp hq) (by omega) h2) ?_
 have:mkRat (p.num * (q.den:Int) - q.num * (p.den:Int)) (p.den * q.den) = p - q:=(Rat.sub_def' p q).symm
 rw [this]
 exact Ev.now _
theorem ev_rhalf {q:Rat} (h1:q.num.natAbs < 9223372036854775808) (h2:2 * q.den < 9223372036854775808):Ev (fun k=>numnahref07_Half.f k q.num (q.den:Int)) ((q / 2).num,((q / 2).den:Int)):=by
 unfold numnahref07_Half.f
 have e:2 * (q.den:Int) = ((q.den * 2:Nat):Int):=by push_cast;omega
 rw [e,wrap_nat (by omega)]
 simp only [ref_reduced]
 refine Ev.bind (ev_frac _ _ (by have:=den_pos q;omega) h1 (by omega)) ?_
 have e2:mkRat q.num (q.den * 2) = q / 2:=by
  have:=mk_over q (n:=2) (by omega)
  exact this
 rw [e2]
 exact Ev.now _
theorem rless {p q:Rat} (h:Fits p q):numnahref07_Less.f p.num (p.den:Int) q.num (q.den:Int) = some (decide (p < q)):=by
 unfold numnahref07_Less.f
 have h1:=h.num
 have a1:(p.num * (q.den:Int)).natAbs = p.num.natAbs * q.den:=by rw [Int.natAbs_mul,Int.natAbs_natCast]
 have a2:(q.num * (p.den:Int)).natAbs = q.num.natAbs * p.den:=by rw [Int.natAbs_mul,Int.natAbs_natCast]
 rw [wrap_abs (by omega:(p.num * (q.den:Int)).natAbs < _),wrap_abs (by omega:(q.num * (p.den:Int)).natAbs < _)]
 congr 1
 rw [Bool.eq_iff_iff,decide_eq_true_iff,decide_eq_true_iff]
 exact less_iff p q
end Go.Proofs.Ytjohcjfmlhihbaa.P
