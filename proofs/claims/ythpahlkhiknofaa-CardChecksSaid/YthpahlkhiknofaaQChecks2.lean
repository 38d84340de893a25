/- Several texts, joined. -/
import Derived.BigRegion
import Derived.Deep.RegionLaw
import Derived.Deep.RegionHeld3
import Derived.Test.YthpahlkhiknofaaQChecks1
set_option linter.unusedVariables false
set_option linter.unusedSimpArgs false
namespace Go.Proofs.Ythpahlkhiknofaa.H
open Go Go.RowKit Go.Shelf Go.Proofs.Ythpahlkhiknofaa.G Go.Proofs.Ythpahlkhiknofaa.P Go.Proofs.YthpahlkhiknofaaW.PrintWords Go.Proofs.YthpahlkhiknofaaW.PrintLast Go.Proofs.YthpahlkhiknofaaW.PrintMore
def rzL (xs:List Int) (n:Nat) (s:ByteArray):Nat → Nat → Int
 | 0,_=>0
 | d + 1,p=>if (decide (valS xs (p:Int) n (wrap64 (-rd xs (n:Int))) ≥ 0) != (bt s (p:Int) == 49)) = true then 10 else rzL xs n s d (p + 1)
def padL (l:List Int):List Int:=[rd l 0,rd l 1,rd l 2,rd l 3,rd l 4,rd l 5]
def bad60 (l:List Int):Bool:=l.any (fun x=>!decide (-1000000 ≤ x ∧ x ≤ 1000000))
def rzV (s:ByteArray) (l:List Int) (n:Nat) (ok:Bool):Int:=if ok = true ∧ l.length = n + 1 ∧ bad60 l = false then rzL (padL l) n s s.size 0 else 2
theorem below_cells {N g:Nat} {w0:World} (hg:N ≤ g):∀ (vs:List Value) (o:Nat) (W:World),Below N w0 W → Below N w0 (W.setCells g o vs)
 | [],_,_,h=>h
 | v :: r,o,W,h=>by
  rw [World.setCells]
  exact below_cells hg r (o + 1) _ (h.setCell hg _)
set_option maxRecDepth 100000 in
theorem copy_in (W:World) (l:List Int) (n:Nat) (hn:n ≤ 5) (hl:l.length = n + 1) (A:Option Addr) (c:Nat) (hC:Kd.C (Kd.int .i64) W A l.length l) :
  ∃ W4,(Builtin.copy_ #[22,22] 3 #[.slice (some { block:=W.heap.size,off:=0 }) 6 6,.slice A l.length c]).run Try.prog (W.alloc (stO 0 0 0 0 0 0)) = .ok (goInt l.length) W4 ∧ Below W.heap.size W W4 ∧ W4.heap[W.heap.size]? = some (.cells ((padL l).map (Value.int .i64)).toArray 88 (0,0)):=by
 have hC3:=Kd.C_alloc hC (stO 0 0 0 0 0 0)
 obtain ⟨ad,rfl,_⟩:=Kd.at_int hC3 0 (by omega) (by omega)
 have hh:=World.alloc_heap_new W (stO 0 0 0 0 0 0)
 have hlen:(l.map (Value.int .i64)).length = n + 1:=by rw [List.length_map,hl]
 have hr:=run_copy_cells (P:=Try.prog) (W.alloc (stO 0 0 0 0 0 0)) 22 22 3 3 W.heap.size 0 6 6 ad l.length c (l.map (Value.int .i64)) Try.underlying22 (by kernel_rfl) (by rw [hlen,hl];exact (Nat.min_eq_left (by omega)).symm) (fun j v hv=>by
  have hj:j < l.length:=by
   rcases Nat.lt_or_ge j l.length with h | h
   ·exact h
   rw [List.getElem?_eq_none (by rw [List.length_map];exact h)] at hv
   cases hv
  obtain ⟨ad',e,hc⟩:=Kd.at_int hC3 (j:Int) (by omega) (by omega)
  cases e
  rw [Int.toNat_natCast] at hc
  rw [hc,← hv,List.getElem?_map,List.getElem?_eq_getElem hj,rd_get hj];rfl) (fun j hj=>by
  rw [Nat.zero_add,st_cell 0 0 0 0 0 0 W (show j ≤ 5 by omega)];rfl) (fun j _=>by
  rw [Nat.zero_add];exact blk_frozen hh _) (by intro u hu;simp only [List.mem_map] at hu;obtain ⟨q,_,rfl⟩:=hu;rfl)
 obtain ⟨cur',h3,h4,h5⟩:=setCells_row (e:=88) (l.map (Value.int .i64)) 0 (W.alloc (stO 0 0 0 0 0 0)) _ hh (by rw [hlen];show _ ≤ 6;omega)
 rw [List.length_map] at hr
 refine ⟨_,hr,below_cells (Nat.le_refl _) _ _ _ ((Below.refl _ _).alloc (Nat.le_refl _) _),?_⟩
 rw [h3]
 have e:cur' = ((padL l).map (Value.int .i64)).toArray:=by
  rw [← Array.toArray_toList (xs:=cur'),h5]
  congr 1
  rcases l with _ | ⟨a,_ | ⟨b,_ | ⟨c,_ | ⟨d,_ | ⟨e,_ | ⟨f,_ | ⟨g,t⟩⟩⟩⟩⟩⟩⟩ <;> first | (exfalso;simp only [List.length_cons,List.length_nil] at hl;omega) | rfl | simp [padL,rd]
 rw [e]
set_option maxHeartbeats 4000000 in
set_option maxRecDepth 100000 in
theorem realize19 (s:ByteArray) (A:Option Addr) (c:Nat) (l:List Int) (w:World) (hl:Kd.C (Kd.int .i64) w A l.length l) (hlc:l.length ≤ c) (hlen:fitL l) (hsz:s.size ≤ 1000) (n:Nat) (ok:Bool) (hnew:card_newTotal.f s = some ((n:Int),s,ok)) (hn:n ≤ 5) :
  Calls Try.prog 19 #[.string s,.slice A l.length c] w fun e w'=>e = .returned (.int .i64 (rzV s l n ok)) ∧ Below w.heap.size w w':=by
 have HL:=Lib.hid hl
 clear hl
 have HN:=Lib.hid (card_newTotal.calls s n s ok w hnew)
 go_enter Try.func19,Try.ntmps19
 go_wp2_with fail
 refine HN.out.mono ?_
 rintro e w1 ⟨rfl,hb1⟩
 have HB1:=Lib.hid hb1
 clear hb1
 cases ok with
 | false =>
  go_wp2_with fail
  exact bodyPost_ret (v:=.int .i64 2) (results_tmp (t:=4) rfl _ _ _) rfl ⟨by unfold rzV;rw [if_neg (fun h=>by cases h.1)],HB1.out.alloc HB1.out.size _⟩
 | true =>
  obtain ⟨q,hq⟩:∃ q,((l.length:Int) != (n:Int) + 1) = q:=⟨_,rfl⟩
  have HQ:=Lib.hid hq
  cases q with
  | true =>
   have hq2:=bne_iff_ne.1 hq
   go_wp2_with fail
   exact bodyPost_ret (v:=.int .i64 2) (results_tmp (t:=4) rfl _ _ _) rfl ⟨by unfold rzV;rw [if_neg (fun h=>hq2 (by have:=h.2.1;omega))],HB1.out.alloc HB1.out.size _⟩
  | false =>
   have hq2:(l.length:Int) = (n:Int) + 1:=bne_eq_false_iff_eq.1 hq
   go_wp2_with fail
   have HC:=Lib.hid (contains60 A c l (w1.alloc (Obj.cells #[Value.int IntKind.i64 n,Value.string s] 81)) (Kd.C_alloc (Kd.C_below HL.out HB1.out) _) hlen)
   refine HC.out.mono ?_
   rintro e w2 ⟨rfl,hb2⟩
   have HB2:=Lib.hid hb2
   clear hb2
   obtain ⟨b,hb⟩:∃ b,bad60 l = b:=⟨_,rfl⟩
   have hb':(l.any fun x=>!decide (-1000000 ≤ x ∧ x ≤ 1000000)) = b:=hb
   rw [hb']
   have HBB:=Lib.hid hb
   clear hb hb'
   cases b with
   | true =>
    go_wp2_with fail
    exact bodyPost_ret (v:=.int .i64 2) (results_tmp (t:=4) rfl _ _ _) rfl ⟨by unfold rzV;rw [if_neg (fun h=>by rw [HBB.out] at h;cases h.2.2)],(HB1.out.alloc HB1.out.size _).trans (HB2.out.mono (by rw [World.size_alloc];have:=HB1.out.size;omega))⟩
   | false =>
    have hl1:l.length = n + 1:=by omega
    have HL1:=Lib.hid hl1
    have hC2:=Kd.C_below (Kd.C_alloc (Kd.C_below HL.out HB1.out) (Obj.cells #[Value.int IntKind.i64 n,Value.string s] 81)) HB2.out
    obtain ⟨W4,hr4,hb4,hh4⟩:=copy_in w2 l n hn hl1 A c hC2
    have hc4:W4.cell? { block:=w1.heap.size,off:=0 } = some (.int .i64 (n:Int)):=by
     have h1:(w1.alloc (Obj.cells #[Value.int IntKind.i64 n,Value.string s] 81)).cell? { block:=w1.heap.size,off:=0 } = some (.int .i64 (n:Int)):=by
      have h:=World.alloc_heap_new w1 (Obj.cells #[Value.int IntKind.i64 n,Value.string s] 81)
      unfold World.cell?;rw [h];rfl
     have hs2:=HB2.out.size
     rw [World.size_alloc] at hs2
     exact (hb4.cell (p:={ block:=w1.heap.size,off:=0 }) (by show w1.heap.size < _;omega)).trans ((HB2.out.cell (p:={ block:=w1.heap.size,off:=0 }) (by rw [World.size_alloc];exact Nat.lt_succ_self _)).trans h1)
    have HH4:=Lib.hid hh4
    have HC4:=Lib.hid hc4
    have HB4:=Lib.hid hb4
    unfold stO at hr4
    rw [hl1] at hr4
    have HR4:=Lib.hid hr4
    clear hh4 hc4 hb4 hr4
    go_wp2_with fail
    rw [HR4.out]
    simp only [Result.andThen_ok,Oper.uponIn_value]
    go_wp2_with fail
    go_loopg [33] s.size (fun k s33 W=>∃ p:Nat,s33 = .int .i64 (p:Int) ∧ p ≤ s.size ∧ s.size ≤ k + p ∧ Below W4.heap.size W4 W ∧ rzL (padL l) n s s.size 0 = rzL (padL l) n s (s.size - p) p)
    case atStart=>exact ⟨0,rfl,by omega,by omega,Below.refl _ _,rfl⟩
    case round =>
     obtain ⟨p,rfl,hp,hk,hB,hv⟩:=hrel
     have HB:=Lib.hid hB
     have HV:=Lib.hid hv
     clear hB hv
     have hg4:=blk_lt HH4.out
     have hWh:_ = _:=(HB.out.block w2.heap.size hg4).trans HH4.out
     by_cases hps:p < s.size
     case neg =>
      have:p = s.size:=by omega
      subst this
      go_wp2_with fail
      refine bodyPost_ret (v:=.int .i64 0) (results_tmp (t:=4) rfl _ _ _) rfl ⟨?_,?_⟩
      ·unfold rzV
       rw [if_pos ⟨rfl,HL1.out,HBB.out⟩,HV.out,Nat.sub_self];rfl
      have hs1:=HB1.out.size
      have hs2:=HB2.out.size
      rw [World.size_alloc] at hs2
      have hs4:=HB4.out.size
      exact (((HB1.out.alloc hs1 _).trans (HB2.out.mono (by rw [World.size_alloc];omega))).trans (HB4.out.mono (by omega))).trans (HB.out.mono (by omega))
     have hld:=run_loadVar_row (P:=Try.prog) _ w2.heap.size 88 88 _ (0,0) _ hWh Try.underlying88 rfl (by kernel_rfl)
     have hc:=(HB.out.cell (p:={ block:=w1.heap.size,off:=0 }) (World.block_lt_of_cell? _ _ HC4.out)).trans HC4.out
     have hbt:=bt_at s (p:Int)
     go_wp2_with fail
     refine start_ (n:=11) (S:=fun w'=>w'.heap[w2.heap.size]? = some (.cells ((padL l).map (Value.int .i64)).toArray 88 (0,0)) ∧ w'.cell? { block:=w1.heap.size,off:=0 } = some (.int .i64 (n:Int))) (ds:=[]) #[false,false,false,false,false,false,false,false,false,false,false] (by kernel_rfl) rfl rfl ⟨hWh,hc⟩ (fun hHeld=>?_)
     refine pure_ (i:=1) (N:=some 37) (v:=?_) (a':=?_) #[false,true,false,false,false,false,false,false,false,false,false] rfl rfl (by kernel_rfl) (fun _ _ _ h=>h) (Or.inl ⟨by rfl,?_⟩) ?_ ?_
     rotate_left
     ·intro w'
      go_simp
      with_reducible rfl
     rotate_left
     ·simp only [Act.put,List.setIfInBounds_toArray,List.set_cons_zero,List.set_cons_succ,i64_w,i32_w]
      rfl
     refine take_ (i:=0) (N:=some 36) (v:=?_) (a':=?_) #[true,true,false,false,false,false,false,false,false,false,false] rfl rfl (by kernel_rfl) (fun _ _ _ h=>h) (Or.inl ⟨by rfl,?_⟩) hHeld ?_ ?_
     rotate_left
     ·rintro w' ⟨s0,s1⟩
      have q0:w'.cell? { block:=w2.heap.size,off:=0 } = some (.int .i64 (rd l 0)):=(cell_of_row w' w2.heap.size 0 _ _ _ s0).trans rfl
      have q1:w'.cell? { block:=w2.heap.size,off:=1 } = some (.int .i64 (rd l 1)):=(cell_of_row w' w2.heap.size 1 _ _ _ s0).trans rfl
      have q2:w'.cell? { block:=w2.heap.size,off:=2 } = some (.int .i64 (rd l 2)):=(cell_of_row w' w2.heap.size 2 _ _ _ s0).trans rfl
      have q3:w'.cell? { block:=w2.heap.size,off:=3 } = some (.int .i64 (rd l 3)):=(cell_of_row w' w2.heap.size 3 _ _ _ s0).trans rfl
      have q4:w'.cell? { block:=w2.heap.size,off:=4 } = some (.int .i64 (rd l 4)):=(cell_of_row w' w2.heap.size 4 _ _ _ s0).trans rfl
      have q5:w'.cell? { block:=w2.heap.size,off:=5 } = some (.int .i64 (rd l 5)):=(cell_of_row w' w2.heap.size 5 _ _ _ s0).trans rfl
      go_simp
      with_reducible rfl
     rotate_left
     ·simp only [Act.put,List.setIfInBounds_toArray,List.set_cons_zero,List.set_cons_succ,i64_w,i32_w]
      rfl
     refine take_ (i:=2) (N:=some 38) (v:=?_) (a':=?_) #[true,true,true,false,false,false,false,false,false,false,false] rfl rfl (by kernel_rfl) (fun _ _ _ h=>h) (Or.inl ⟨by rfl,?_⟩) hHeld ?_ ?_
     rotate_left
     ·rintro w' ⟨s0,s1⟩
      have q0:w'.cell? { block:=w2.heap.size,off:=0 } = some (.int .i64 (rd l 0)):=(cell_of_row w' w2.heap.size 0 _ _ _ s0).trans rfl
      have q1:w'.cell? { block:=w2.heap.size,off:=1 } = some (.int .i64 (rd l 1)):=(cell_of_row w' w2.heap.size 1 _ _ _ s0).trans rfl
      have q2:w'.cell? { block:=w2.heap.size,off:=2 } = some (.int .i64 (rd l 2)):=(cell_of_row w' w2.heap.size 2 _ _ _ s0).trans rfl
      have q3:w'.cell? { block:=w2.heap.size,off:=3 } = some (.int .i64 (rd l 3)):=(cell_of_row w' w2.heap.size 3 _ _ _ s0).trans rfl
      have q4:w'.cell? { block:=w2.heap.size,off:=4 } = some (.int .i64 (rd l 4)):=(cell_of_row w' w2.heap.size 4 _ _ _ s0).trans rfl
      have q5:w'.cell? { block:=w2.heap.size,off:=5 } = some (.int .i64 (rd l 5)):=(cell_of_row w' w2.heap.size 5 _ _ _ s0).trans rfl
      go_simp
      with_reducible rfl
     rotate_left
     ·simp only [Act.put,List.setIfInBounds_toArray,List.set_cons_zero,List.set_cons_succ,i64_w,i32_w]
      rfl
     refine pure_ (i:=3) (N:=some 39) (v:=?_) (a':=?_) #[true,true,true,true,false,false,false,false,false,false,false] rfl rfl (by kernel_rfl) (fun _ _ _ h=>h) (Or.inl ⟨by rfl,?_⟩) ?_ ?_
     rotate_left
     ·intro w'
      go_simp
      with_reducible rfl
     rotate_left
     ·simp only [Act.put,List.setIfInBounds_toArray,List.set_cons_zero,List.set_cons_succ,i64_w,i32_w]
      rfl
     refine pure_ (i:=6) (N:=some 42) (v:=?_) (a':=?_) #[true,true,true,true,false,false,true,false,false,false,false] rfl rfl (by kernel_rfl) (fun _ _ _ h=>h) (Or.inl ⟨by rfl,?_⟩) ?_ ?_
     rotate_left
     ·intro w'
      go_simp
      with_reducible rfl
     rotate_left
     ·simp only [Act.put,List.setIfInBounds_toArray,List.set_cons_zero,List.set_cons_succ,i64_w,i32_w]
      rfl
     refine pure_ (i:=7) (N:=some 43) (v:=?_) (a':=?_) #[true,true,true,true,false,false,true,true,false,false,false] rfl rfl (by kernel_rfl) (fun _ _ _ h=>h) (Or.inl ⟨by rfl,?_⟩) ?_ ?_
     rotate_left
     ·intro w'
      go_simp
      with_reducible rfl
     rotate_left
     ·simp only [Act.put,List.setIfInBounds_toArray,List.set_cons_zero,List.set_cons_succ,i64_w,i32_w]
      rfl
     refine pure_ (i:=8) (N:=some 44) (v:=?_) (a':=?_) #[true,true,true,true,false,false,true,true,true,false,false] rfl rfl (by kernel_rfl) (fun _ _ _ h=>h) (Or.inl ⟨by rfl,?_⟩) ?_ ?_
     rotate_left
     ·intro w'
      go_simp
      with_reducible rfl
     rotate_left
     ·simp only [Act.put,List.setIfInBounds_toArray,List.set_cons_zero,List.set_cons_succ,i64_w,i32_w]
      rfl
     refine pure_ (i:=9) (N:=some 45) (v:=?_) (a':=?_) #[true,true,true,true,false,false,true,true,true,true,false] rfl rfl (by kernel_rfl) (fun _ _ _ h=>h) (Or.inl ⟨by rfl,?_⟩) ?_ ?_
     rotate_left
     ·intro w'
      go_simp
      with_reducible rfl
     rotate_left
     ·simp only [Act.put,List.setIfInBounds_toArray,List.set_cons_zero,List.set_cons_succ,i64_w,i32_w]
      rfl
     refine one_ (i:=4) (N:=some 40) #[true,true,true,true,true,false,true,true,true,true,false] rfl rfl (by kernel_rfl) (by decide) (fun K hK=>?_)
     refine call_ 62 #[stV (padL l),.int .i64 (n:Int),.int .i64 (p:Int)] (by rfl) rfl (by go_simp;rfl) ?_
     refine (value62 (rd l 0) (rd l 1) (rd l 2) (rd l 3) (rd l 4) (rd l 5) n hn (p:Int) _).mono ?_
     rintro e w5 ⟨rfl,hb5⟩
     have hst5:w5.heap[w2.heap.size]? = some (.cells ((padL l).map (Value.int .i64)).toArray 88 (0,0)) ∧ w5.cell? { block:=w1.heap.size,off:=0 } = some (.int .i64 (n:Int)):=⟨(hb5.block _ (blk_lt hHeld.1)).trans hHeld.1,(hb5.cell (p:={ block:=w1.heap.size,off:=0 }) (World.block_lt_of_cell? _ _ hHeld.2)).trans hHeld.2⟩
     have HB5:=Lib.hid ((below_drew1 HB.out).trans (hb5.mono HB.out.size))
     refine ⟨_,rfl,hK.out _ _ hst5 (fun _=>?_)⟩
     clear hK K
     obtain ⟨vv,hvv⟩:∃ v,valS [rd l 0,rd l 1,rd l 2,rd l 3,rd l 4,rd l 5] (p:Int) n (wrap64 (-rd [rd l 0,rd l 1,rd l 2,rd l 3,rd l 4,rd l 5] (n:Int))) = v:=⟨_,rfl⟩
     rw [hvv]
     refine pure_ (i:=5) (N:=some 41) (v:=?_) (a':=?_) #[true,true,true,true,true,true,true,true,true,true,false] rfl rfl (by kernel_rfl) (fun _ _ _ h=>h) (Or.inl ⟨by rfl,?_⟩) ?_ ?_
     rotate_left
     ·intro w'
      go_simp
      with_reducible rfl
     rotate_left
     ·simp only [Act.put,List.setIfInBounds_toArray,List.set_cons_zero,List.set_cons_succ,i64_w,i32_w]
      rfl
     refine pure_ (i:=10) (N:=some 46) (v:=?_) (a':=?_) #[true,true,true,true,true,true,true,true,true,true,true] rfl rfl (by kernel_rfl) (fun _ _ _ h=>h) (Or.inl ⟨by rfl,?_⟩) ?_ ?_
     rotate_left
     ·intro w'
      go_simp
      with_reducible rfl
     rotate_left
     ·simp only [Act.put,List.setIfInBounds_toArray,List.set_cons_zero,List.set_cons_succ,i64_w,i32_w]
      rfl
     refine done_ (by kernel_rfl) ?_
     have hstep:rzL (padL l) n s (s.size - p) p = if (decide (vv ≥ 0) != (bt s (p:Int) == 49)) = true then 10 else rzL (padL l) n s (s.size - (p + 1)) (p + 1):=by
      rw [← hvv,show s.size - p = (s.size - (p + 1)) + 1 by omega];rfl
     have HS:=Lib.hid hstep
     clear hstep
     obtain ⟨q,hq⟩:∃ q,(decide (vv ≥ 0) != (bt s (p:Int) == 49)) = q:=⟨_,rfl⟩
     have HQ5:=Lib.hid hq
     rw [bt_get hps] at hq
     simp only [ge_iff_le] at hq
     have hq':(!decide (0 ≤ vv) == (((s[p]).toNat:Int) == 49)) = q:=by
      rw [← hq];cases decide (0 ≤ vv) <;> cases (((s[p]).toNat:Int) == 49) <;> rfl
     rw [hq']
     clear hq hq'
     cases q with
     | true =>
      go_wp2_with fail
      refine bodyPost_ret (v:=.int .i64 10) (results_tmp (t:=4) rfl _ _ _) rfl ⟨?_,?_⟩
      ·unfold rzV
       rw [if_pos ⟨rfl,HL1.out,HBB.out⟩,HV.out,HS.out,if_pos HQ5.out]
      have hs1:=HB1.out.size
      have hs2:=HB2.out.size
      rw [World.size_alloc] at hs2
      have hs4:=HB4.out.size
      exact (((HB1.out.alloc hs1 _).trans (HB2.out.mono (by rw [World.size_alloc];omega))).trans (HB4.out.mono (by omega))).trans (HB5.out.mono (by omega))
     | false =>
      go_wp2_with fail
      go_roundg (s.size - (p + 1))
      case measure=>omega
      case rel=>exact ⟨p + 1,by simp,by omega,by omega,HB5.out,by rw [HV.out,HS.out,if_neg (by rw [HQ5.out];decide)]⟩
end Go.Proofs.Ythpahlkhiknofaa.H
namespace Go.Proofs.Ythpahlkhiknofaa.H
open Go Go.RowKit Go.Shelf Go.Proofs.Ythpahlkhiknofaa.G Go.Proofs.Ythpahlkhiknofaa.P Go.Proofs.YthpahlkhiknofaaW.PrintWords Go.Proofs.YthpahlkhiknofaaW.PrintLast Go.Proofs.YthpahlkhiknofaaW.PrintMore
set_option maxHeartbeats 4000000 in
set_option maxRecDepth 100000 in
theorem realize_no (s:ByteArray) (A:Option Addr) (len c:Nat) (w:World) (n:Int) (hnew:card_newTotal.f s = some (n,s,false)) :
  Calls Try.prog 19 #[.string s,.slice A len c] w fun e w'=>e = .returned (.int .i64 2) ∧ Below w.heap.size w w':=by
 have HN:=Lib.hid (card_newTotal.calls s n s false w hnew)
 go_enter Try.func19,Try.ntmps19
 go_wp2_with fail
 refine HN.out.mono ?_
 rintro e w1 ⟨rfl,hb1⟩
 have HB1:=Lib.hid hb1
 clear hb1
 go_wp2_with fail
 exact bodyPost_ret (v:=.int .i64 2) (results_tmp (t:=4) rfl _ _ _) rfl ⟨rfl,HB1.out.alloc HB1.out.size _⟩
end Go.Proofs.Ythpahlkhiknofaa.H
namespace Go.Proofs.Ythpahlkhiknofaa.G
open Go Go.RowKit Go.Proofs.YthpahlkhiknofaaW.PrintWords
def card_Realize.f (a0:ByteArray) (l1:List Int):Option (Int):=(card_newTotal.f a0).bind fun t=>if okT a0 t.1 t.2.1 t.2.2 ∧ H.fitL l1 then some (H.rzV a0 l1 t.1.toNat t.2.2) else none
theorem card_Realize.calls (a0:ByteArray) (A1:Option Addr) (c1:Nat) (l1:List Int) (r:Int) (w:World) (hr1:Kd.C (Kd.int .i64) w A1 l1.length l1) (hc1:l1.length ≤ c1) (h:card_Realize.f a0 l1 = some r) :
  Calls Try.prog 19 #[.string a0,.slice A1 l1.length c1] w fun e w'=>e = .returned (.int .i64 r) ∧ Below w.heap.size w w':=by
 unfold card_Realize.f at h
 obtain ⟨t,ht,h⟩:=Option.bind_eq_some_iff.1 h
 obtain ⟨n,s,ok⟩:=t
 by_cases hf:okT a0 n s ok ∧ H.fitL l1
 case neg =>
  rw [if_neg hf] at h
  cases h
 rw [if_pos hf] at h
 obtain rfl:=Option.some.inj h
 obtain ⟨⟨rfl,h1,h2⟩,h4⟩:=hf
 cases ok with
 | false =>
  have e:H.rzV a0 l1 n.toNat false = 2:=by unfold H.rzV;first | rfl | (rw [if_neg (by decide)]) | (rw [if_neg (fun h=>by cases h.1)])
  rw [show (H.rzV a0 l1 (n,a0,false).1.toNat (n,a0,false).2.2) = 2 from e]
  exact H.realize_no a0 A1 l1.length c1 w n ht
 | true =>
  obtain ⟨h2,h3⟩:=h2 rfl
  obtain ⟨m,rfl⟩:∃ m:Nat,n = (m:Int):=⟨n.toNat,by omega⟩
  have:=H.realize19 a0 A1 c1 l1 w hr1 hc1 h4 h1 m true ht (by omega)
  rwa [show m = ((m:Int)).toNat from rfl] at this
end Go.Proofs.Ythpahlkhiknofaa.G
namespace Go.Proofs.Ythpahlkhiknofaa.G
open Go Go.RowKit Go.Proofs.YthpahlkhiknofaaW.PrintWords Go.Proofs.YthpahlkhiknofaaW.PrintLast Go.Proofs.YthpahlkhiknofaaW.PrintMore
theorem below_of_drew (g:Nat) (w:World):Below g w w.drew:=below_drew (Below.refl g w)
def gone (cur:Array Value) (len i:Nat):List Value:=(cur.toList.take (len * 2)).drop ((i + 1) * 2)
theorem gone_len {cur:Array Value} {len i cap:Nat} (h:cur.size = cap * 2) (hl:len ≤ cap):(gone cur len i).length = (len - (i + 1)) * 2:=by
 unfold gone;rw [List.length_drop,List.length_take,Array.length_toList];omega
theorem cell_of {w:World} {g:Nat} {cur:Array Value} (h:w.heap[g]? = some (.cells cur 96 (0,0))) (j:Nat):w.cell? ⟨g,j,none⟩ = cur[j]?:=cell_of_row w g j cur 96 (0,0) h
def zz:List Value:=[.int .i64 0,.int .i64 0]
theorem run_clear_cube (w:World) (ty:TypeId) (g o c:Nat) (cur:Array Value) (h:w.heap[g]? = some (.cells cur 96 (0,0))) (hf:o + 2 ≤ cur.size) :
  (Builtin.clear_ #[93] ty #[.slice (some ⟨g,o,none⟩) 1 c]).run Try.prog w = .ok (.tuple #[]) (w.setCells g o zz):=by
 have hv:∀ w,(zeroValue 96).run Try.prog w = .ok (.agg #[.int .i64 0,.int .i64 0]) w:=fun w=>by kernel_rfl
 have hzc:(Builtin.zeroCells (Value.agg #[.int .i64 0,.int .i64 0]).cells 1).toList = zz:=by kernel_rfl
 have hc:∀ j,j < zz.length → (w.cell? ⟨g,o + 0 + j,none⟩).isSome = true:=fun j hj=>by
  have:j < 2:=hj
  rw [cell_of h,Array.getElem?_eq_getElem (by omega)];rfl
 have hst:=run_storeCells_cells (P:=Try.prog) g o zz 0 w hc (fun j _=>blk_frozen h _) (by
  intro v hv'
  simp only [zz,List.mem_cons,List.not_mem_nil,or_false] at hv'
  rcases hv' with rfl | rfl <;> rfl)
 simp only [Nat.add_zero] at hst
 simp [Builtin.clear_,run_underlying Try.underlying93,hv,hzc,hst]
set_option maxHeartbeats 8000000 in
set_option maxRecDepth 100000 in
theorem delete81 (g len cap i:Nat) (cur:Array Value) (w:World) (hh:w.heap[g]? = some (.cells cur 96 (0,0))) (hcap:cur.size = cap * 2) (hl:len ≤ cap) (hm:cap ≤ 9223372036854775807) (hi:i < len) (h1:∀ u ∈ cur.toList.take (len * 2),u.oneCell' = true) :
  Calls Try.prog 81 #[.slice (some ⟨g,0,none⟩) len cap,.int .i64 (i:Int),.int .i64 ((i:Int) + 1)] w fun e w'=>∃ cur':Array Value,e = .returned (.slice (some ⟨g,0,none⟩) (len - 1) cap) ∧ w'.heap[g]? = some (.cells cur' 96 (0,0)) ∧ cur'.toList.take ((len - 1) * 2) = cur.toList.take (i * 2) ++ gone cur len i ∧ Below g w w':=by
 have HH:=Lib.hid hh
 clear hh
 obtain ⟨info,hinf⟩:∃ x,Try.prog.info? 96 = some x:=⟨_,rfl⟩
 have hsz:info.size = 2:=by
  have:=info96
  rw [hinf] at this
  simp only [Option.map_some,Option.some.injEq,Prod.mk.injEq] at this
  exact this.2.1
 have HI:=Lib.hid hinf
 have HSZ:=Lib.hid hsz
 have HCAP:=Lib.hid hcap
 have s1:=Lib.hid (gone_len (i:=i) hcap hl)
 have s2:Hid (∀ u ∈ gone cur len i,u.oneCell' = true):=Lib.hid fun u hu=>h1 u (List.mem_of_mem_drop hu)
 have s3:Hid (∀ j,j < (gone cur len i).length → (w.drew.cell? ⟨g,0 + i * 2 + j,none⟩).isSome = true ∧ w.drew.frozen? ⟨g,0 + i * 2 + j,none⟩ = false):=Lib.hid fun j hj=>by
  rw [s1.out] at hj
  have hc:=cell_of (w:=w.drew) (show w.drew.heap[g]? = _ from HH.out) (0 + i * 2 + j)
  exact ⟨by rw [hc,Array.getElem?_eq_getElem (by omega)];rfl,blk_frozen (show w.drew.heap[g]? = _ from HH.out) _⟩
 clear hinf hsz hcap h1
 by_cases hc:cap = i + 1
 ·subst hc
  have hlen:len = i + 1:=by omega
  subst hlen
  have hnews:Hid (∀ j u,(gone cur (i + 1) i)[j]? = some u → w.drew.cell? ((⟨g,0,none⟩:Addr).add j) = some u):=Lib.hid fun j u hu=>by
   have:=s1.out
   rw [List.getElem?_eq_none (by rw [this];omega)] at hu
   cases hu
  have hic:i ≤ (i + 1):=by omega
  have hp0:(0:Int) ≤ (i:Int) + 1:=by omega
  have hp1:(i:Int) + 1 ≤ ((i + 1):Int):=by omega
  have hp2:((i:Int) + 1).toNat = i + 1:=by omega
  have hp3:(i:Int) ≤ (i:Int) + 1:=by omega
  have hp4:((i:Int) == (i:Int) + 1) = false:=by rw [beq_eq_false_iff_ne];omega
  go_enter Try.func81,Try.ntmps81
  go_wp2_with fail
  go_region_law (refine step_append_room rfl (.tmp 22) (.tmp 25) 93 rfl 96 info 2 Try.underlying93 HI.out HSZ.out g 0 i (i + 1) (by simp [Act.eval,Act.put]) ⟨g,0,none⟩ ((i + 1) - (i + 1)) ((i + 1) - (i + 1)) (gone cur (i + 1) i) (by simp [Act.eval,Act.put]) s1.out hnews.out s2.out (by omega) s3.out ?_)
  obtain ⟨cur1,g1,g2,g3⟩:=setCells_row (e:=96) (gone cur (i + 1) i) (i * 2) w.drew _ (show w.drew.heap[g]? = _ from HH.out) (by have:=HCAP.out;rw [s1.out];omega)
  have hb1:Below g w (w.drew.setCells g (i * 2) (gone cur (i + 1) i)):=H.below_cells (Nat.le_refl _) _ _ _ (below_of_drew g w)
  obtain ⟨W1,hW1⟩:∃ W,w.drew.setCells g (i * 2) (gone cur (i + 1) i) = W:=⟨_,rfl⟩
  rw [hW1] at g1 hb1 ⊢
  have G1:=Lib.hid g1
  have G2:=Lib.hid g2
  have G3:=Lib.hid g3
  have HB1:=Lib.hid hb1
  have hle:i ≤ i + 1:=by omega
  have hle2:((i:Nat):Int) ≤ ((i + 1):Int):=by omega
  have hle3:(i + 1) ≤ (i + 1):=hl
  clear g1 g2 g3 hb1 hW1
  go_wp2_with fail
  rw [run_clear_cube W1 0 g (i * 2) _ cur1 G1.out (by rw [G2.out,HCAP.out];omega)]
  simp only [Result.andThen_ok]
  obtain ⟨cur2,k1,k2,k3⟩:=setCells_row (e:=96) zz (i * 2) W1 _ G1.out (by have:=G2.out;have:=HCAP.out;show _ + 2 ≤ _;omega)
  have hb2:Below g w (W1.setCells g (i * 2) zz):=H.below_cells (Nat.le_refl _) _ _ _ HB1.out
  obtain ⟨W2,hW2⟩:∃ W,W1.setCells g (i * 2) zz = W:=⟨_,rfl⟩
  rw [hW2] at k1 hb2 ⊢
  have K1:=Lib.hid k1
  have K3:=Lib.hid k3
  have HB2:=Lib.hid hb2
  clear k1 k2 k3 hb2 hW2
  go_wp2_with fail
  refine bodyPost_ret (v:=.slice (some ⟨g,0,none⟩) i (i + 1)) (results_tmp (t:=6) rfl _ _ _) rfl ⟨cur2,rfl,K1.out,?_,HB2.out⟩
  have e1:(i * 2 + (gone cur (i + 1) i).length) = i * 2:=by rw [s1.out];omega
  have e3:(cur.toList.take (i * 2) ++ gone cur (i + 1) i).length = i * 2:=by
   rw [List.length_append,List.length_take,Array.length_toList,HCAP.out];omega
  rw [show i + 1 - 1 = i by omega,K3.out,List.append_assoc,List.take_append_of_le_length (by rw [List.length_take,Array.length_toList,G2.out,HCAP.out];omega),List.take_take,Nat.min_self,G3.out,List.take_append_of_le_length (by omega),List.take_of_length_le (by omega)]
 have hnews:Hid (∀ j u,(gone cur len i)[j]? = some u → w.drew.cell? ((⟨g,(i + 1) * 2,none⟩:Addr).add j) = some u):=Lib.hid fun j u hu=>by
  have hc:=cell_of (w:=w.drew) (show w.drew.heap[g]? = _ from HH.out) ((i + 1) * 2 + j)
  rw [Addr.add_lit,hc]
  unfold gone at hu
  rw [List.getElem?_drop,List.getElem?_take] at hu
  split at hu
  ·rw [← Array.getElem?_toList];exact hu
  cases hu
 have hic:i ≤ cap:=by omega
 have hp0:(0:Int) ≤ (i:Int) + 1:=by omega
 have hp1:(i:Int) + 1 ≤ (len:Int):=by omega
 have hp2:((i:Int) + 1).toNat = i + 1:=by omega
 have hp3:(i:Int) ≤ (i:Int) + 1:=by omega
 have hp4:((i:Int) == (i:Int) + 1) = false:=by rw [beq_eq_false_iff_ne];omega
 go_enter Try.func81,Try.ntmps81
 go_wp2_with fail
 go_region_law (refine step_append_room rfl (.tmp 22) (.tmp 25) 93 rfl 96 info 2 Try.underlying93 HI.out HSZ.out g 0 i cap (by simp [Act.eval,Act.put]) ⟨g,(i + 1) * 2,none⟩ (len - (i + 1)) (cap - (i + 1)) (gone cur len i) (by simp [Act.eval,Act.put]) s1.out hnews.out s2.out (by omega) s3.out ?_)
 have hn:i + (len - (i + 1)) = len - 1:=by omega
 rw [hn]
 obtain ⟨cur1,g1,g2,g3⟩:=setCells_row (e:=96) (gone cur len i) (i * 2) w.drew _ (show w.drew.heap[g]? = _ from HH.out) (by have:=HCAP.out;rw [s1.out];omega)
 have hb1:Below g w (w.drew.setCells g (i * 2) (gone cur len i)):=H.below_cells (Nat.le_refl _) _ _ _ (below_of_drew g w)
 obtain ⟨W1,hW1⟩:∃ W,w.drew.setCells g (i * 2) (gone cur len i) = W:=⟨_,rfl⟩
 rw [hW1] at g1 hb1 ⊢
 have G1:=Lib.hid g1
 have G2:=Lib.hid g2
 have G3:=Lib.hid g3
 have HB1:=Lib.hid hb1
 have hle:len - 1 ≤ len:=by omega
 have hle2:((len - 1:Nat):Int) ≤ (len:Int):=by omega
 have hle3:len ≤ cap:=hl
 clear g1 g2 g3 hb1 hn hW1
 go_wp2_with fail
 rw [show len - (len - 1) = 1 by omega,run_clear_cube W1 0 g ((len - 1) * 2) _ cur1 G1.out (by rw [G2.out,HCAP.out];omega)]
 simp only [Result.andThen_ok]
 obtain ⟨cur2,k1,k2,k3⟩:=setCells_row (e:=96) zz ((len - 1) * 2) W1 _ G1.out (by have:=G2.out;have:=HCAP.out;show _ + 2 ≤ _;omega)
 have hb2:Below g w (W1.setCells g ((len - 1) * 2) zz):=H.below_cells (Nat.le_refl _) _ _ _ HB1.out
 obtain ⟨W2,hW2⟩:∃ W,W1.setCells g ((len - 1) * 2) zz = W:=⟨_,rfl⟩
 rw [hW2] at k1 hb2 ⊢
 have K1:=Lib.hid k1
 have K3:=Lib.hid k3
 have HB2:=Lib.hid hb2
 clear k1 k2 k3 hb2 hW2
 go_wp2_with fail
 refine bodyPost_ret (v:=.slice (some ⟨g,0,none⟩) (len - 1) cap) (results_tmp (t:=6) rfl _ _ _) rfl ⟨cur2,rfl,K1.out,?_,HB2.out⟩
 have e1:(i * 2 + (gone cur len i).length) = (len - 1) * 2:=by rw [s1.out];omega
 have e3:(cur.toList.take (i * 2) ++ gone cur len i).length = (len - 1) * 2:=by
  rw [List.length_append,List.length_take,Array.length_toList,HCAP.out];omega
 rw [K3.out,List.append_assoc,List.take_append_of_le_length (by rw [List.length_take,Array.length_toList,G2.out,HCAP.out];omega),List.take_take,Nat.min_self,G3.out,List.take_append_of_le_length (by omega),List.take_of_length_le (by omega)]
end Go.Proofs.Ythpahlkhiknofaa.G
namespace Go.Proofs.Ythpahlkhiknofaa.H
open Go Go.RowKit Go.Shelf Go.Proofs.Ythpahlkhiknofaa.G Go.Proofs.Ythpahlkhiknofaa.P Go.Proofs.YthpahlkhiknofaaW.PrintWords Go.Proofs.YthpahlkhiknofaaW.PrintLast Go.Proofs.YthpahlkhiknofaaW.PrintMore
def LaidC (cur:Array Value) (l:List S96):Prop:=∀ j x,l[j]? = some x → cur[j * 2]? = some (.int .i64 x.f0) ∧ cur[j * 2 + 1]? = some (.int .i64 x.f1)
theorem take_two {cs:List Value} {j:Nat} {a b:Value} (h:(cs.drop (j * 2)).take 2 = [a,b]):cs[j * 2]? = some a ∧ cs[j * 2 + 1]? = some b:=by
 have e0:=congrArg (fun l:List Value=>l[0]?) h
 have e1:=congrArg (fun l:List Value=>l[1]?) h
 simp only [List.getElem?_take,List.getElem?_drop,List.getElem?_cons_zero,List.getElem?_cons_succ] at e0 e1
 exact ⟨by simpa using e0,by simpa using e1⟩
theorem own96 {w:World} {base:Nat} {ok:Nat → Prop} {v:Value} {l:List S96} (h:Kd.R k96 96 w base ok v l) (h0:0 < l.length):∃ g cap cur,v = .slice (some ⟨g,0,none⟩) l.length cap ∧ base ≤ g ∧ w.heap[g]? = some (.cells cur 96 (0,0)) ∧ l.length ≤ cap ∧ cap ≤ 9223372036854775807 ∧ cur.size = cap * 2 ∧ LaidC cur l ∧ ∀ u ∈ cur.toList.take (l.length * 2),u.oneCell' = true:=by
 obtain ⟨_,inner,⟨hlen,ho⟩,hr⟩:=h
 rcases ho with ⟨_,e⟩ | ⟨g,cap,cur,rfl,hg,hh,h1,h2,h3,h4⟩
 ·omega
 have hs:k96.sz = 2:=rfl
 rw [hs] at h3 h4 hr hlen
 have key:∀ j x,l[j]? = some x → inner[j * 2]? = some (.int .i64 x.f0) ∧ inner[j * 2 + 1]? = some (.int .i64 x.f1):=fun j x hx=>take_two (k96_openM (hr.2 j x hx))
 have lj:∀ j x,l[j]? = some x → j < l.length:=fun j x hx=>(List.getElem?_eq_some_iff.1 hx).1
 refine ⟨g,cap,cur,rfl,hg,hh,h1,h2,h3,fun j x hx=>?_,?_⟩
 ·obtain ⟨a,b⟩:=key j x hx
  have:=lj j x hx
  rw [← h4,List.getElem?_take,if_pos (by omega)] at a
  rw [← h4,List.getElem?_take,if_pos (by omega)] at b
  rw [← Array.getElem?_toList,← Array.getElem?_toList]
  exact ⟨a,b⟩
 rw [h4]
 intro u hu
 obtain ⟨m,hm,rfl⟩:=List.getElem_of_mem hu
 have hmj:m / 2 < l.length:=by omega
 obtain ⟨a,b⟩:=key (m / 2) l[m / 2] (List.getElem?_eq_getElem hmj)
 rcases Nat.mod_two_eq_zero_or_one m with e | e
 ·rw [show m / 2 * 2 = m by omega,List.getElem?_eq_getElem hm] at a
  rw [Option.some.inj a];rfl
 rw [show m / 2 * 2 + 1 = m by omega,List.getElem?_eq_getElem hm] at b
 rw [Option.some.inj b];rfl
theorem laid_C {w:World} {g:Nat} {cur:Array Value} {l:List S96} (hh:w.heap[g]? = some (.cells cur 96 (0,0))) (hl:LaidC cur l) (hm:l.length ≤ 9223372036854775807):Kd.C k96 w (some ⟨g,0,none⟩) l.length l:=by
 refine ⟨rfl,hm,fun _=>⟨_,rfl,fun j x hx=>⟨[.int .i64 x.f0,.int .i64 x.f1],rfl,k96_mk w x,fun i u hu=>?_⟩⟩⟩
 obtain ⟨a,b⟩:=hl j x hx
 rw [Addr.add_lit,cell_of_row w g _ cur 96 (0,0) hh]
 rcases i with _ | _ | i
 ·simp only [List.getElem?_cons_zero,Option.some.injEq] at hu
  subst hu
  rw [show 0 + (j * k96.sz + 0) = j * 2 from by show 0 + (j * 2 + 0) = _;omega]
  exact a
 ·simp only [List.getElem?_cons_succ,List.getElem?_cons_zero,Option.some.injEq] at hu
  subst hu
  rw [show 0 + (j * k96.sz + (0 + 1)) = j * 2 + 1 from by show 0 + (j * 2 + (0 + 1)) = _;omega]
  exact b
 simp at hu
theorem laid_del {cur cur':Array Value} {l:List S96} {i:Nat} (hi:i < l.length) (hl:LaidC cur l) (hc:l.length * 2 ≤ cur.size) (h:cur'.toList.take ((l.length - 1) * 2) = cur.toList.take (i * 2) ++ gone cur l.length i):LaidC cur' (l.eraseIdx i):=by
 have cell:∀ m,m < (l.length - 1) * 2 → cur'[m]? = if m < i * 2 then cur[m]? else cur[m + 2]?:=fun m hm=>by
  have e:=congrArg (fun x:List Value=>x[m]?) h
  simp only [List.getElem?_take,if_pos hm] at e
  rw [← Array.getElem?_toList,e,List.getElem?_append]
  have hlen:(cur.toList.take (i * 2)).length = i * 2:=by rw [List.length_take,Array.length_toList];omega
  rw [hlen]
  by_cases h2:m < i * 2
  ·rw [if_pos h2,if_pos h2,List.getElem?_take,if_pos h2,Array.getElem?_toList]
  rw [if_neg h2,if_neg h2]
  unfold gone
  rw [List.getElem?_drop,List.getElem?_take,if_pos (by omega),Array.getElem?_toList]
  congr 1
  omega
 intro j x hx
 have hj:j < l.length - 1:=by
  have:=(List.getElem?_eq_some_iff.1 hx).1
  rw [List.length_eraseIdx_of_lt hi] at this
  exact this
 rw [List.getElem?_eraseIdx] at hx
 rw [cell (j * 2) (by omega),cell (j * 2 + 1) (by omega)]
 by_cases h2:j < i
 ·rw [if_pos h2] at hx
  rw [if_pos (by omega),if_pos (by omega)]
  exact hl j x hx
 rw [if_neg h2] at hx
 rw [if_neg (by omega),if_neg (by omega),show j * 2 + 2 = (j + 1) * 2 by omega,show j * 2 + 1 + 2 = (j + 1) * 2 + 1 by omega]
 exact hl (j + 1) x hx
theorem two_le {n m cap:Nat} (h:n = cap * 2) (h2:m ≤ cap):m * 2 ≤ n:=by omega
theorem era_max (q:List S96) (i:Nat) (h:q.length ≤ 1000):(q.eraseIdx i).length ≤ 9223372036854775807:=by have:=List.length_eraseIdx_le q i;omega
theorem wrap_i {i n:Nat} (h:i < n) (h2:n ≤ 1000):IntKind.i64.wrap ((i:Int) + 1) = (i:Int) + 1:=IntWalk.i64_in _ ⟨by omega,by omega⟩
def irrB (s:ByteArray) (l:List S96) (d i:Nat):Bool:=allF (fun i=>!covB s (l.eraseIdx i)) d i
set_option maxHeartbeats 8000000 in
set_option maxRecDepth 100000 in
theorem irr47 (k:Nat) (s:ByteArray) (A:Option Addr) (c:Nat) (l:List ByteArray) (w:World) (hl:Kd.C Kd.string w A l.length l) (hlc:l.length ≤ c) (hsz:s.size ≤ 1000) (n:Int) (ok:Bool) (q:List S96) (b:Bool)
  (h43:card_Check.f k s l = some 0) (h65:card_newFunction.f s = some (n,s,ok)) (h77:card_function_cubes.f k n s l = some (q,b)) (hq:q.length ≤ 1000) :
  Calls Try.prog 47 #[.string s,.slice A l.length c] w fun e w'=>e = .returned (.tuple #[.bool (irrB s q q.length 0),.int .i64 0]) ∧ Below w.heap.size w w':=by
 have HL:=Lib.hid hl
 have H43:=Lib.hid h43
 have H65:=Lib.hid h65
 have H77:=Lib.hid h77
 clear hl h43 h65 h77
 go_enter Try.func47,Try.ntmps47
 go_wp2_with fail
 refine (card_Check.calls k s A c l 0 _ HL.out hlc H43.out).mono ?_
 rintro e w1 ⟨rfl,hb1⟩
 have HB1:=Lib.hid hb1
 clear hb1
 go_wp2_with fail
 refine (card_newFunction.calls s n s ok _ H65.out).mono ?_
 rintro e w2 ⟨rfl,hb2⟩
 have hb2':=HB1.out.trans (hb2.mono HB1.out.size)
 have HB2:=Lib.hid hb2'
 clear hb2 hb2'
 go_wp2_with fail
 have hba:=HB2.out.alloc HB2.out.size (Obj.cells #[Value.int IntKind.i64 n,Value.string s] 81)
 have hcells:=World.alloc_heap_new w2 (Obj.cells #[Value.int IntKind.i64 n,Value.string s] 81)
 have hca:(w2.alloc (Obj.cells #[Value.int IntKind.i64 n,Value.string s] 81)).cell? { block:=w2.heap.size,off:=0 } = some (.int .i64 n):=by unfold World.cell?;rw [hcells];rfl
 have hcb:(w2.alloc (Obj.cells #[Value.int IntKind.i64 n,Value.string s] 81)).cell? { block:=w2.heap.size,off:=1 } = some (.string s):=by unfold World.cell?;rw [hcells];rfl
 have HBA:=Lib.hid hba
 have HCA:=Lib.hid hca
 have HCB:=Lib.hid hcb
 clear hba hcells
 refine (card_function_cubes.calls k n s A c l q b _ (Kd.C_below HL.out HBA.out) hlc H77.out).mono ?_
 rintro e w3 ⟨v0,rfl,ho3,hb3⟩
 obtain ⟨A0,c0,rfl⟩:=Kd.R_slice ho3
 obtain ⟨_,hlc0,hC3⟩:=Kd.R_reads' ho3
 have hn1:=World.block_lt_of_cell? _ _ HCA.out
 have hn2:=World.block_lt_of_cell? _ _ HCB.out
 have hca3:=(hb3.cell hn1).trans HCA.out
 have hcb3:=(hb3.cell hn2).trans HCB.out
 have hB3:=HBA.out.trans (hb3.mono HBA.out.size)
 have HB3:=Lib.hid hB3
 have HC3:=Lib.hid hC3
 have HCA3:=Lib.hid hca3
 have HCB3:=Lib.hid hcb3
 clear ho3 hb3 hC3 hca3 hcb3 hB3 HCA HCB hca hcb hn1 hn2
 go_wp2_with fail
 go_loopg [31] q.length (fun m s31 W=>∃ i:Nat,s31 = .int .i64 (i:Int) ∧ i ≤ q.length ∧ q.length ≤ m + i ∧ Below w3.heap.size w3 W ∧ irrB s q q.length 0 = irrB s q (q.length - i) i)
 case atStart=>exact ⟨0,rfl,by omega,by omega,Below.refl _ _,rfl⟩
 case round =>
  obtain ⟨i,rfl,hi,hm,hB,hv⟩:=hrel
  have HB:=Lib.hid hB
  have HV:=Lib.hid hv
  clear hB hv
  by_cases hiq:i < q.length
  case neg =>
   have:i = q.length:=by omega
   subst this
   go_wp2_with fail
   refine bodyPost_ret (v:=.tuple #[.bool true,.int .i64 0]) (results_tmp2 (t:=4) (u:=5) rfl _ _ _) rfl ⟨?_,HB3.out.trans (HB.out.mono HB3.out.size)⟩
   rw [HV.out,Nat.sub_self];rfl
  have hca:=(HB.out.cell (World.block_lt_of_cell? _ _ HCA3.out)).trans HCA3.out
  have hcb:=(HB.out.cell (World.block_lt_of_cell? _ _ HCB3.out)).trans HCB3.out
  have hC:=Kd.C_below HC3.out HB.out
  have HC:=Lib.hid hC
  clear hC
  go_wp2_with fail
  have hwr:IntKind.i64.wrap ((i:Int) + 1) = (i:Int) + 1:=wrap_i hiq hq
  have hel:Hid ((q.eraseIdx i).length = q.length - 1):=Lib.hid (List.length_eraseIdx_of_lt hiq)
  go_region_held3 (fun w'=>w'.cell? { block:=w2.heap.size,off:=0 } = some (.int .i64 n) ∧ w'.cell? { block:=w2.heap.size,off:=1 } = some (.string s)) (first | exact ⟨hca,hcb⟩ | go_keep)
   (first
    | (go_at_call 82;refine (clone82 A0 c0 q _ (Kd.C_drew HC.out) hlc0 (Nat.lt_of_le_of_lt hq (by decide))).mono ?_;rintro e w5 ⟨v5,rfl,ho5,hb5⟩;have HB5:=Lib.hid hb5;obtain ⟨g,cap,cur,rfl,hg,hh5,hl1,hl2,hl3,hlaid,hone⟩:=own96 ho5 (Nat.lt_of_le_of_lt (Nat.zero_le i) hiq);have hca5:=(hb5.cell (show _ < wr.heap.size from World.block_lt_of_cell? _ _ hca)).trans hca;have hcb5:=(hb5.cell (show _ < wr.heap.size from World.block_lt_of_cell? _ _ hcb)).trans hcb;have HH5:=Lib.hid hh5;have HL3:=Lib.hid hl3;have HLA:=Lib.hid hlaid;have HONE:=Lib.hid hone;clear ho5 hb5 hh5 hl3 hlaid hone)
    | (go_at_call 81;refine (delete81 g q.length cap i cur _ HH5.out HL3.out hl1 hl2 hiq HONE.out).mono ?_;rintro e w6 ⟨cur',rfl,hh6,ht6,hb6⟩;have hca6:=(hb6.cell (show w2.heap.size < g from Nat.lt_of_lt_of_le (World.block_lt_of_cell? _ _ hca) hg)).trans hca5;have hcb6:=(hb6.cell (show w2.heap.size < g from Nat.lt_of_lt_of_le (World.block_lt_of_cell? _ _ hca) hg)).trans hcb5;have HC6:=Lib.hid (laid_C hh6 (laid_del hiq HLA.out (two_le HL3.out hl1) ht6) (era_max q i hq));have HB6:=Lib.hid hb6;clear hh6 ht6 hb6)
    | (go_at_call 78;have hcv:=isCover78 n s (some ⟨g,0,none⟩) cap (q.eraseIdx i) w6 HC6.out (era_max q i hq) hsz;rw [hel.out] at hcv;refine hcv.mono ?_;rintro e w7 ⟨rfl,hb7⟩;have HB7:=Lib.hid hb7;have hca7:=(hb7.cell (World.block_lt_of_cell? _ _ hca6)).trans hca6;have hcb7:=(hb7.cell (World.block_lt_of_cell? _ _ hcb6)).trans hcb6;obtain ⟨r,hr⟩:∃ r,covB s (q.eraseIdx i) = r:=⟨_,rfl⟩;rw [hr];have HR:=Lib.hid hr;clear hb7 hr))
  have hb6:Below w3.heap.size w3 w6:=(below_drew1 HB.out).trans ((HB5.out.mono HB.out.size).trans (HB6.out.mono (Nat.le_trans HB.out.size hg)))
  have hB7:=hb6.trans (HB7.out.mono hb6.size)
  have HB77:=Lib.hid hB7
  have hst:irrB s q (q.length - i) i = (!covB s (q.eraseIdx i) && irrB s q (q.length - (i + 1)) (i + 1)):=by
   rw [show q.length - i = (q.length - (i + 1)) + 1 by omega];rfl
  have HST:=Lib.hid hst
  have hw1:=wrap_succ (i:=i) (by omega)
  clear hb6 hB7 hst
  cases r with
  | true =>
   go_wp2_with fail
   refine bodyPost_ret (v:=.tuple #[.bool false,.int .i64 0]) (results_tmp2 (t:=4) (u:=5) rfl _ _ _) rfl ⟨?_,HB3.out.trans (HB77.out.mono HB3.out.size)⟩
   rw [HV.out,HST.out,HR.out];rfl
  | false =>
   go_wp2_with fail
   go_roundg (q.length - (i + 1))
   case measure=>clear hw1;omega
   case rel=>exact ⟨i + 1,by simp [hw1],hiq,by clear hw1;omega,HB77.out,by rw [HV.out,HST.out,HR.out];rfl⟩
set_option maxHeartbeats 8000000 in
set_option maxRecDepth 100000 in
theorem irr_no (k:Nat) (s:ByteArray) (A:Option Addr) (c:Nat) (l:List ByteArray) (w:World) (hl:Kd.C Kd.string w A l.length l) (hlc:l.length ≤ c) (r:Int) (h43:card_Check.f k s l = some r) (hr:r ≠ 0) :
  Calls Try.prog 47 #[.string s,.slice A l.length c] w fun e w'=>e = .returned (.tuple #[.bool false,.int .i64 r]) ∧ Below w.heap.size w w':=by
 have HL:=Lib.hid hl
 have H43:=Lib.hid h43
 have hb1:(r == 0) = false:=beq_eq_false_iff_ne.2 hr
 have hb2:(r != 0) = true:=bne_iff_ne.2 hr
 clear hl h43
 go_enter Try.func47,Try.ntmps47
 go_wp2_with fail
 refine (card_Check.calls k s A c l r _ HL.out hlc H43.out).mono ?_
 rintro e w1 ⟨rfl,hb1⟩
 have HB1:=Lib.hid hb1
 clear hb1
 go_wp2_with fail
 exact bodyPost_ret (v:=.tuple #[.bool false,.int .i64 r]) (results_tmp2 (t:=4) (u:=5) rfl _ _ _) rfl ⟨rfl,HB1.out⟩
end Go.Proofs.Ythpahlkhiknofaa.H
namespace Go.Proofs.Ythpahlkhiknofaa.G
open Go Go.RowKit Go.Proofs.YthpahlkhiknofaaW.PrintWords
def card_Irredundant.f (k:Nat) (a0:ByteArray) (l1:List ByteArray):Option (Bool × Int):=(card_Check.f k a0 l1).bind fun e=>if e = 0 then ((card_newFunction.f a0).bind fun t=>(card_function_cubes.f k t.1 a0 l1).bind fun q=>if t.2.1 = a0 ∧ a0.size ≤ 1000 ∧ q.1.length ≤ 1000 then some (H.irrB a0 q.1 q.1.length 0,0) else none) else some (false,e)
theorem card_Irredundant.mono:∀ a0 a1 k,LeO (card_Irredundant.f k a0 a1) (card_Irredundant.f (k + 1) a0 a1):=by
 intro a0 a1 k
 unfold card_Irredundant.f
 refine LeO.bind (card_Check.mono _ _ _) (fun _=>LeO.ite ?_ (LeO.refl _))
 exact LeO.bind (LeO.refl _) (fun _=>LeO.bind (card_function_cubes.mono _ _ _ _) (fun _=>LeO.refl _))
theorem card_Irredundant.calls (k:Nat) (a0:ByteArray) (A1:Option Addr) (c1:Nat) (l1:List ByteArray) (r1:Bool) (r2:Int) (w:World) (hr1:Kd.C Kd.string w A1 l1.length l1) (hc1:l1.length ≤ c1) (h:card_Irredundant.f k a0 l1 = some (r1,r2)) :
  Calls Try.prog 47 #[.string a0,.slice A1 l1.length c1] w fun e w'=>e = .returned (.tuple #[.bool r1,.int .i64 r2]) ∧ Below w.heap.size w w':=by
 unfold card_Irredundant.f at h
 obtain ⟨e,he,h⟩:=Option.bind_eq_some_iff.1 h
 by_cases e0:e = 0
 case neg =>
  rw [if_neg e0] at h
  have h3:=Option.some.inj h
  injection h3 with h4 h5
  subst h4 h5
  exact H.irr_no k a0 A1 c1 l1 w hr1 hc1 e he e0
 rw [if_pos e0] at h
 subst e0
 obtain ⟨t,ht,h⟩:=Option.bind_eq_some_iff.1 h
 obtain ⟨n,s,ok⟩:=t
 obtain ⟨q,hq,h⟩:=Option.bind_eq_some_iff.1 h
 by_cases hf:s = a0 ∧ a0.size ≤ 1000 ∧ q.1.length ≤ 1000
 case neg =>
  rw [if_neg (show ¬ ((n,s,ok).2.1 = a0 ∧ _) from hf)] at h
  cases h
 rw [if_pos (show (n,s,ok).2.1 = a0 ∧ _ from hf)] at h
 obtain ⟨rfl,h1,h2⟩:=hf
 have h3:=Option.some.inj h
 injection h3 with h4 h5
 subst h4 h5
 exact H.irr47 k s A1 c1 l1 w hr1 hc1 h1 n ok q.1 q.2 he ht hq h2
end Go.Proofs.Ythpahlkhiknofaa.G
namespace Go.Proofs.Ythpahlkhiknofaa.G
open Go.RowKit Go.Proofs.YthpahlkhiknofaaW.PrintWords Go.Proofs.YthpahlkhiknofaaW.PrintLast Go.Proofs.YthpahlkhiknofaaW.PrintMore
set_option maxHeartbeats 8000000
set_option maxRecDepth 100000
attribute [local go_sem] max2_int min2_int max_two min_two max_three min_three max_four min_four   -- for this text's walks alone
mutual
def numnahlaw01_CardChecks.j0:Nat → ByteArray → List ByteArray → Int → Bool → Int → Int → Bool → Option (Bool)
 | 0,_,_,_,_,_,_,_=>none
 | k + 1,x5,x6,x7,x8,x9,x10,x11=>numnahlaw01_CardChecks.l0 k x5 x6 x7 x8 x9 x10 x11 0
def numnahlaw01_CardChecks.l0:Nat → ByteArray → List ByteArray → Int → Bool → Int → Int → Bool → Int → Option (Bool)
 | 0,_,_,_,_,_,_,_,_=>none
 | k + 1,x5,x6,x7,x8,x9,x10,x11,x12=>if x12 < (x6.length:Int) then (if x11 = true then (if 0 ≤ x12 then ((numnahref01_Cube.f k (rdOf ByteArray.empty x6 x12) x10).bind fun t384=>(numnahlaw01_CardChecks.l0 k x5 x6 x7 x8 x9 x10 t384 (wrap64 (x12 + 1)))) else (none)) else (numnahlaw01_CardChecks.l0 k x5 x6 x7 x8 x9 x10 false (wrap64 (x12 + 1)))) else (if x11 = true then ((numnahref01_Covers.f k x5 x6).bind fun t386=>(if t386 = true then (numnahlaw01_CardChecks.l1 k x5 x6 x7 x8 x9 true 0) else (if x7 = 10 then (if x8 = true then (some false) else (if x9 = 10 then ((numnahlaw01_awake.f).bind fun t387=>(some t387)) else (some false))) else (some false)))) else (if x7 = 2 then (if x8 = true then (some false) else (if x9 = 2 then ((numnahlaw01_awake.f).bind fun t385=>(some t385)) else (some false))) else (some false)))
def numnahlaw01_CardChecks.l1:Nat → ByteArray → List ByteArray → Int → Bool → Int → Bool → Int → Option (Bool)
 | 0,_,_,_,_,_,_,_=>none
 | k + 1,x5,x6,x7,x8,x9,x13,x14=>if x14 < (x6.length:Int) then (if x13 = true then (if 0 ≤ x14 then (if x14 ≤ (x6.length:Int) then ((numnahlaw01_few.f k (x6.take (x14:Int).toNat)).bind fun t392=>(if 0 ≤ (wrap64 (x14 + 1)) then (if (wrap64 (x14 + 1)) ≤ (x6.length:Int) then ((some (x6.drop ((wrap64 (x14 + 1)):Int).toNat:List ByteArray)).bind fun y395=>(if t392.length + y395.length < 8796093022208 then ((numnahref01_Covers.f k x5 (t392 ++ y395)).bind fun t402=>(numnahlaw01_CardChecks.l1 k x5 x6 x7 x8 x9 (!t402) (wrap64 (x14 + 1)))) else (none))) else (none)) else (none))) else (none)) else (none)) else (numnahlaw01_CardChecks.l1 k x5 x6 x7 x8 x9 false (wrap64 (x14 + 1)))) else (if x7 = 0 then (if (x8 == x13) = true then (if x9 = 0 then ((numnahlaw01_awake.f).bind fun t403=>(some t403)) else (some false)) else (some false)) else (some false))
end
def numnahlaw01_CardChecks.f (k:Nat) (a0:ByteArray) (l1:List ByteArray):Option (Bool):=(numnahlaw01_short.f a0).bind fun t375=>((numnahlaw01_few.f k l1).bind fun t376=>((card_Check.f k t375 t376).bind fun t379=>((card_Irredundant.f k t375 t376).bind fun bt380=>((numnahref01_Vars.f k t375).bind fun t382=>(if t382 > 0 then (numnahlaw01_CardChecks.j0 k t375 t376 t379 bt380.1 bt380.2 t382 (decide ((t376.length:Int) ≤ 32))) else (numnahlaw01_CardChecks.j0 k t375 t376 t379 bt380.1 bt380.2 t382 false))))))
theorem numnahlaw01_CardChecks.mono_l:∀ k,(∀ y0 y1 y2 y3 y4 y5 y6,LeO (numnahlaw01_CardChecks.j0 k y0 y1 y2 y3 y4 y5 y6) (numnahlaw01_CardChecks.j0 (k + 1) y0 y1 y2 y3 y4 y5 y6)) ∧ (∀ y0 y1 y2 y3 y4 y5 y6 y7,LeO (numnahlaw01_CardChecks.l0 k y0 y1 y2 y3 y4 y5 y6 y7) (numnahlaw01_CardChecks.l0 (k + 1) y0 y1 y2 y3 y4 y5 y6 y7)) ∧ (∀ y0 y1 y2 y3 y4 y5 y6,LeO (numnahlaw01_CardChecks.l1 k y0 y1 y2 y3 y4 y5 y6) (numnahlaw01_CardChecks.l1 (k + 1) y0 y1 y2 y3 y4 y5 y6))
 | 0=>⟨fun _ _ _ _ _ _ _ r h=>by simp [numnahlaw01_CardChecks.j0] at h,fun _ _ _ _ _ _ _ _ r h=>by simp [numnahlaw01_CardChecks.l0] at h,fun _ _ _ _ _ _ _ r h=>by simp [numnahlaw01_CardChecks.l1] at h⟩
 | k + 1=>by
  obtain ⟨ih0,ih1,ih2⟩:=numnahlaw01_CardChecks.mono_l k
  refine ⟨?_,?_,?_⟩
  ·intro y0 y1 y2 y3 y4 y5 y6
   unfold numnahlaw01_CardChecks.j0
   repeat' first
   | (with_reducible exact ih0 _ _ _ _ _ _ _)
   | (with_reducible exact ih1 _ _ _ _ _ _ _ _)
   | (with_reducible exact ih2 _ _ _ _ _ _ _)
   | (with_reducible exact card_Check.mono _ _ _)
   | (with_reducible exact card_Irredundant.mono _ _ _)
   | (with_reducible exact numnahlaw01_few.mono _ _)
   | (with_reducible exact numnahref01_Covers.mono _ _ _)
   | (with_reducible exact numnahref01_Cube.mono _ _ _)
   | (with_reducible exact numnahref01_Vars.mono _ _)
   | (with_reducible exact LeO.refl _)
   | (with_reducible exact LeO.none _)
   | (with_reducible refine LeO.ite ?_ ?_)
   | (with_reducible refine LeO.bind ?_ (fun _=>?_))
   | exact ih0 _ _ _ _ _ _ _
   | exact ih1 _ _ _ _ _ _ _ _
   | exact ih2 _ _ _ _ _ _ _
   | exact card_Check.mono _ _ _
   | exact card_Irredundant.mono _ _ _
   | exact numnahlaw01_few.mono _ _
   | exact numnahref01_Covers.mono _ _ _
   | exact numnahref01_Cube.mono _ _ _
   | exact numnahref01_Vars.mono _ _
   | exact LeO.none _
   | refine LeO.ite ?_ ?_
   | refine LeO.bind ?_ (fun _=>?_)
  ·intro y0 y1 y2 y3 y4 y5 y6 y7
   unfold numnahlaw01_CardChecks.l0
   repeat' first
   | (with_reducible exact ih0 _ _ _ _ _ _ _)
   | (with_reducible exact ih1 _ _ _ _ _ _ _ _)
   | (with_reducible exact ih2 _ _ _ _ _ _ _)
   | (with_reducible exact card_Check.mono _ _ _)
   | (with_reducible exact card_Irredundant.mono _ _ _)
   | (with_reducible exact numnahlaw01_few.mono _ _)
   | (with_reducible exact numnahref01_Covers.mono _ _ _)
   | (with_reducible exact numnahref01_Cube.mono _ _ _)
   | (with_reducible exact numnahref01_Vars.mono _ _)
   | (with_reducible exact LeO.refl _)
   | (with_reducible exact LeO.none _)
   | (with_reducible refine LeO.ite ?_ ?_)
   | (with_reducible refine LeO.bind ?_ (fun _=>?_))
   | exact ih0 _ _ _ _ _ _ _
   | exact ih1 _ _ _ _ _ _ _ _
   | exact ih2 _ _ _ _ _ _ _
   | exact card_Check.mono _ _ _
   | exact card_Irredundant.mono _ _ _
   | exact numnahlaw01_few.mono _ _
   | exact numnahref01_Covers.mono _ _ _
   | exact numnahref01_Cube.mono _ _ _
   | exact numnahref01_Vars.mono _ _
   | exact LeO.none _
   | refine LeO.ite ?_ ?_
   | refine LeO.bind ?_ (fun _=>?_)
  intro y0 y1 y2 y3 y4 y5 y6
  unfold numnahlaw01_CardChecks.l1
  repeat' first
  | (with_reducible exact ih0 _ _ _ _ _ _ _)
  | (with_reducible exact ih1 _ _ _ _ _ _ _ _)
  | (with_reducible exact ih2 _ _ _ _ _ _ _)
  | (with_reducible exact card_Check.mono _ _ _)
  | (with_reducible exact card_Irredundant.mono _ _ _)
  | (with_reducible exact numnahlaw01_few.mono _ _)
  | (with_reducible exact numnahref01_Covers.mono _ _ _)
  | (with_reducible exact numnahref01_Cube.mono _ _ _)
  | (with_reducible exact numnahref01_Vars.mono _ _)
  | (with_reducible exact LeO.refl _)
  | (with_reducible exact LeO.none _)
  | (with_reducible refine LeO.ite ?_ ?_)
  | (with_reducible refine LeO.bind ?_ (fun _=>?_))
  | exact ih0 _ _ _ _ _ _ _
  | exact ih1 _ _ _ _ _ _ _ _
  | exact ih2 _ _ _ _ _ _ _
  | exact card_Check.mono _ _ _
  | exact card_Irredundant.mono _ _ _
  | exact numnahlaw01_few.mono _ _
  | exact numnahref01_Covers.mono _ _ _
  | exact numnahref01_Cube.mono _ _ _
  | exact numnahref01_Vars.mono _ _
  | exact LeO.none _
  | refine LeO.ite ?_ ?_
  | refine LeO.bind ?_ (fun _=>?_)
theorem numnahlaw01_CardChecks.mono:∀ a0 a1 k,LeO (numnahlaw01_CardChecks.f k a0 a1) (numnahlaw01_CardChecks.f (k + 1) a0 a1):=by
 intro a0 a1 k
 obtain ⟨ih0,ih1,ih2⟩:=numnahlaw01_CardChecks.mono_l k
 unfold numnahlaw01_CardChecks.f
 repeat' first
   | (with_reducible exact ih0 _ _ _ _ _ _ _)
   | (with_reducible exact ih1 _ _ _ _ _ _ _ _)
   | (with_reducible exact ih2 _ _ _ _ _ _ _)
   | (with_reducible exact card_Check.mono _ _ _)
   | (with_reducible exact card_Irredundant.mono _ _ _)
   | (with_reducible exact numnahlaw01_few.mono _ _)
   | (with_reducible exact numnahref01_Covers.mono _ _ _)
   | (with_reducible exact numnahref01_Cube.mono _ _ _)
   | (with_reducible exact numnahref01_Vars.mono _ _)
   | (with_reducible exact LeO.refl _)
   | (with_reducible exact LeO.none _)
   | (with_reducible refine LeO.ite ?_ ?_)
   | (with_reducible refine LeO.bind ?_ (fun _=>?_))
   | exact ih0 _ _ _ _ _ _ _
   | exact ih1 _ _ _ _ _ _ _ _
   | exact ih2 _ _ _ _ _ _ _
   | exact card_Check.mono _ _ _
   | exact card_Irredundant.mono _ _ _
   | exact numnahlaw01_few.mono _ _
   | exact numnahref01_Covers.mono _ _ _
   | exact numnahref01_Cube.mono _ _ _
   | exact numnahref01_Vars.mono _ _
   | exact LeO.none _
   | refine LeO.ite ?_ ?_
   | refine LeO.bind ?_ (fun _=>?_)
def numnahlaw01_CardChecks.T18:Bool × List (List Nat × List Nat):=(true,[([],[]),([0],[0]),([1],[1]),([1],[1]),([1],[1]),([3,4,1],[1,3,4]),([5,1,1],[1,5]),([1],[1]),([1],[1]),([8,1],[1,8]),([7,9,1],[1,7,9]),([6,10,6,1],[1,6,10]),([2,11,11,1],[1,2,11]),([12,1],[1,12]),([1,13],[1,13]),([14,12,0,1,2,3,4,5,6,7,8,9,10,11,12,13,14],[0,14])])
def numnahlaw01_CardChecks.B18:List Nat:=[0,1,3,3,3,27,59,3,3,259,899,2043,4095,8191,16383,32767]
theorem numnahlaw01_CardChecks.tab18:rtab .any (opsOf Try.f10 18) = numnahlaw01_CardChecks.T18:=by kernel_rfl
theorem numnahlaw01_CardChecks.bits18:waitsOk numnahlaw01_CardChecks.T18.2 numnahlaw01_CardChecks.B18 = true:=by kernel_rfl
theorem numnahlaw01_CardChecks.calls (k:Nat) (a0:ByteArray) (A1:Option Addr) (c1:Nat) (l1:List ByteArray) (r:Bool) (w:World) (hr1:Kd.C Kd.string w A1 l1.length l1) (hc1:l1.length ≤ c1) (h:numnahlaw01_CardChecks.f k a0 l1 = some r) :
  Calls Try.prog 10 #[.string a0,.slice A1 l1.length c1] w fun e w'=>e = .returned (.bool r) ∧ Below w.heap.size w w':=by
 have HR1:=Aside0.mk hr1
 have HC1:=Aside0.mk hc1
 clear hr1 hc1
 have HB:=Aside0.mk (Below.refl w.heap.size w)
 have H:((numnahlaw01_short.f a0).bind fun t375=>((numnahlaw01_few.f k l1).bind fun t376=>((card_Check.f k t375 t376).bind fun t379=>((card_Irredundant.f k t375 t376).bind fun bt380=>((numnahref01_Vars.f k t375).bind fun t382=>(if t382 > 0 then (numnahlaw01_CardChecks.j0 k t375 t376 t379 bt380.1 bt380.2 t382 (decide ((t376.length:Int) ≤ 32))) else (numnahlaw01_CardChecks.j0 k t375 t376 t379 bt380.1 bt380.2 t382 false))))))) = some r:=h
 clear h
 replace H:=Option.bind_eq_some_iff.mp H
 obtain ⟨t375,A30,H⟩:=H
 replace H:((numnahlaw01_few.f k l1).bind fun t376=>((card_Check.f k t375 t376).bind fun t379=>((card_Irredundant.f k t375 t376).bind fun bt380=>((numnahref01_Vars.f k t375).bind fun t382=>(if t382 > 0 then (numnahlaw01_CardChecks.j0 k t375 t376 t379 bt380.1 bt380.2 t382 (decide ((t376.length:Int) ≤ 32))) else (numnahlaw01_CardChecks.j0 k t375 t376 t379 bt380.1 bt380.2 t382 false)))))) = some r:=H
 have A3:=Aside0.mk A30
 clear A30
 replace H:=Option.bind_eq_some_iff.mp H
 obtain ⟨t376,A40,H⟩:=H
 replace H:((card_Check.f k t375 t376).bind fun t379=>((card_Irredundant.f k t375 t376).bind fun bt380=>((numnahref01_Vars.f k t375).bind fun t382=>(if t382 > 0 then (numnahlaw01_CardChecks.j0 k t375 t376 t379 bt380.1 bt380.2 t382 (decide ((t376.length:Int) ≤ 32))) else (numnahlaw01_CardChecks.j0 k t375 t376 t379 bt380.1 bt380.2 t382 false))))) = some r:=H
 have A4:=Aside0.mk A40
 clear A40
 replace H:=Option.bind_eq_some_iff.mp H
 obtain ⟨t379,A50,H⟩:=H
 replace H:((card_Irredundant.f k t375 t376).bind fun bt380=>((numnahref01_Vars.f k t375).bind fun t382=>(if t382 > 0 then (numnahlaw01_CardChecks.j0 k t375 t376 t379 bt380.1 bt380.2 t382 (decide ((t376.length:Int) ≤ 32))) else (numnahlaw01_CardChecks.j0 k t375 t376 t379 bt380.1 bt380.2 t382 false)))) = some r:=H
 have A5:=Aside0.mk A50
 clear A50
 replace H:=Option.bind_eq_some_iff.mp H
 obtain ⟨⟨t380,t381⟩,A60,H⟩:=H
 replace H:((numnahref01_Vars.f k t375).bind fun t382=>(if t382 > 0 then (numnahlaw01_CardChecks.j0 k t375 t376 t379 t380 t381 t382 (decide ((t376.length:Int) ≤ 32))) else (numnahlaw01_CardChecks.j0 k t375 t376 t379 t380 t381 t382 false))) = some r:=H
 have A6:=Aside0.mk A60
 clear A60
 replace H:=Option.bind_eq_some_iff.mp H
 obtain ⟨t382,A70,H⟩:=H
 replace H:(if t382 > 0 then (numnahlaw01_CardChecks.j0 k t375 t376 t379 t380 t381 t382 (decide ((t376.length:Int) ≤ 32))) else (numnahlaw01_CardChecks.j0 k t375 t376 t379 t380 t381 t382 false)) = some r:=H
 have A7:=Aside0.mk A70
 clear A70
 have HC8:=Aside0.mk H
 clear H
 go_enter Try.func10,Try.ntmps10
 go_upto_region 5 with (first | ((with_reducible refine gate_callee (f:=16) rfl ?_);refine goesL_ (some 16) rfl rfl Try.func16 (by kernel_rfl) rfl #[.string a0] rfl (by (try simp only [List.map_toArray,List.map_cons,List.map_nil]);first | done | rfl | (simp only [List.length_drop,List.length_take];rfl)) ?_;(with_reducible refine (numnahlaw01_short.calls a0 t375 _ A3.out).mono ?_);rintro e w9 ⟨rfl,hb⟩;refine ⟨_,rfl,?_⟩;have n0_:=Aside0.mk (below_step (by repeat (first | (with_reducible first | exact HB.out | apply below_alloc | apply pw_below_drewN | apply below_drew1) | exact HB.out)) hb);clear HB;have HB:=n0_;clear n0_;(try clear hb)) | ((with_reducible refine gate_callee (f:=46) rfl ?_);refine goesL_ (some 18) rfl rfl Try.func46 (by kernel_rfl) rfl #[.slice A1 l1.length c1] rfl (by (try simp only [List.map_toArray,List.map_cons,List.map_nil]);first | done | rfl | (simp only [List.length_drop,List.length_take];rfl)) ?_;(with_reducible refine (numnahlaw01_few.calls k _ _ l1 t376 _ ?side1 ?side2 A4.out).mono ?_);(case side1=>repeat (first | exact (Kd.C_below HR1.out HB.out) | (with_reducible refine Kd.C_alloc ?_ _) | (with_reducible refine Kd.C_drewN ?_ _) | (with_reducible refine Kd.C_drew ?_)));(case side2=>exact HC1.out);rintro e w10 ⟨v377,rfl,ho0,hb⟩;refine ⟨_,rfl,?_⟩;have n0_:=Aside0.mk (Kd.R_lower ho0 (below_size (by repeat (first | (with_reducible first | exact HB.out | apply below_alloc | apply pw_below_drewN | apply below_drew1) | exact HB.out))));have n1_:=Aside0.mk (below_step (by repeat (first | (with_reducible first | exact HB.out | apply below_alloc | apply pw_below_drewN | apply below_drew1) | exact HB.out)) hb);clear HB;have HO378:=n0_;have HB:=n1_;clear n0_ n1_;(try clear hb);(try clear ho0);obtain ⟨Ao11,co11,eo11⟩:=Kd.R_slice HO378.out;subst eo11) | ((with_reducible refine gate_callee (f:=43) rfl ?_);refine goesL_ (some 21) rfl rfl Try.func43 (by kernel_rfl) rfl #[.string t375,.slice Ao11 t376.length co11] rfl (by (try simp only [List.map_toArray,List.map_cons,List.map_nil]);first | done | rfl | (simp only [List.length_drop,List.length_take];rfl)) ?_;(with_reducible refine (card_Check.calls k t375 _ _ t376 t379 _ ?side1 ?side2 A5.out).mono ?_);(case side1=>repeat (first | exact (Kd.R_reads' HO378.out).2.2 | (with_reducible refine Kd.C_alloc ?_ _) | (with_reducible refine Kd.C_drewN ?_ _) | (with_reducible refine Kd.C_drew ?_)));(case side2=>exact (Kd.R_reads' HO378.out).2.1);rintro e w12 ⟨rfl,hb⟩;refine ⟨_,rfl,?_⟩;have n0_:=Aside0.mk (Kd.R_below (by (with_reducible repeat (first | apply Kd.R_alloc | apply Kd.R_drewN | apply Kd.R_drew));exact HO378.out) hb);have n1_:=Aside0.mk (below_step (by repeat (first | (with_reducible first | exact HB.out | apply below_alloc | apply pw_below_drewN | apply below_drew1) | exact HB.out)) hb);clear HO378;clear HB;have HO378:=n0_;have HB:=n1_;clear n0_ n1_;(try clear hb)) | ((with_reducible refine gate_callee (f:=47) rfl ?_);refine goesL_ (some 25) rfl rfl Try.func47 (by kernel_rfl) rfl #[.string t375,.slice Ao11 t376.length co11] rfl (by (try simp only [List.map_toArray,List.map_cons,List.map_nil]);first | done | rfl | (simp only [List.length_drop,List.length_take];rfl)) ?_;(with_reducible refine (card_Irredundant.calls k t375 _ _ t376 t380 t381 _ ?side1 ?side2 A6.out).mono ?_);(case side1=>repeat (first | exact (Kd.R_reads' HO378.out).2.2 | (with_reducible refine Kd.C_alloc ?_ _) | (with_reducible refine Kd.C_drewN ?_ _) | (with_reducible refine Kd.C_drew ?_)));(case side2=>exact (Kd.R_reads' HO378.out).2.1);rintro e w13 ⟨rfl,hb⟩;refine ⟨_,rfl,?_⟩;have n0_:=Aside0.mk (Kd.R_below (by (with_reducible repeat (first | apply Kd.R_alloc | apply Kd.R_drewN | apply Kd.R_drew));exact HO378.out) hb);have n1_:=Aside0.mk (below_step (by repeat (first | (with_reducible first | exact HB.out | apply below_alloc | apply pw_below_drewN | apply below_drew1) | exact HB.out)) hb);clear HO378;clear HB;have HO378:=n0_;have HB:=n1_;clear n0_ n1_;(try clear hb)) | ((with_reducible refine gate_callee (f:=24) rfl ?_);refine goesL_ (some 29) rfl rfl Try.func24 (by kernel_rfl) rfl #[.string t375] rfl (by (try simp only [List.map_toArray,List.map_cons,List.map_nil]);first | done | rfl | (simp only [List.length_drop,List.length_take];rfl)) ?_;(with_reducible refine (numnahref01_Vars.calls k t375 t382 _ A7.out).mono ?_);rintro e w' ⟨rfl,⟨nd,rfl⟩⟩;refine ⟨_,rfl,?_⟩))
 (try simp only [Act.put,List.setIfInBounds_toArray,List.set_cons_zero,List.set_cons_succ])
 go_cut [11] (fun v11 wc=>∃ (kq:Nat) (x11_7:Bool),v11 = .bool x11_7 ∧ Aside0 (numnahlaw01_CardChecks.j0 kq t375 t376 t379 t380 t381 t382 x11_7 = some r) ∧ Aside0 (kq ≤ k) ∧ Aside0 (Kd.R Kd.string 9 wc w.heap.size (fun _=>True) (.slice Ao11 t376.length co11) t376) ∧ Aside0 (Below w.heap.size w wc))
 case first =>
  have H:=HC8.out
  clear HC8
  by_cases c14:t382 > 0
  case neg =>
   rw [if_neg c14] at H
   have c14b0:decide (0 < t382) = false:=decide_eq_false c14
   clear c14
   (first | rw [c14b0] | (simp only [i64_w,i32_w];rw [c14b0]) | skip)
   have H':=Aside0.mk H
   clear H
   go_wp2
   go_meet
   case rel=>exact ⟨_,(false),(by first | rfl | (simp;done) | (simp [*];done)),H',⟨by first | omega | exact Nat.le_refl _⟩,⟨by (with_reducible repeat (first | apply Kd.R_alloc | apply Kd.R_drewN | apply Kd.R_drew));exact HO378.out⟩,⟨by repeat (first | (with_reducible first | exact HB.out | apply below_alloc | apply pw_below_drewN | apply below_drew1) | exact HB.out)⟩⟩
  rw [if_pos c14] at H
  have c14b0:decide (0 < t382) = true:=decide_eq_true c14
  clear c14
  (first | rw [c14b0] | (simp only [i64_w,i32_w];rw [c14b0]) | skip)
  have H':=Aside0.mk H
  clear H
  go_wp2
  go_meet
  case rel=>exact ⟨_,(decide ((t376.length:Int) ≤ 32)),(by first | rfl | (simp;done) | (simp [*];done)),H',⟨by first | omega | exact Nat.le_refl _⟩,⟨by (with_reducible repeat (first | apply Kd.R_alloc | apply Kd.R_drewN | apply Kd.R_drew));exact HO378.out⟩,⟨by repeat (first | (with_reducible first | exact HB.out | apply below_alloc | apply pw_below_drewN | apply below_drew1) | exact HB.out)⟩⟩
 case rest =>
  clear HC8
  try clear c1
  try clear c2
  try clear p2
  try clear c4
  try clear c10
  try clear c14
  try clear c14b0
  obtain ⟨kq,x11_7,rfl,HA,HJ7,HO_6,HB⟩:=hcut
  cases kq with
  | zero=>exact absurd HA.out (by simp [numnahlaw01_CardChecks.j0])
  | succ kj7 =>
   have H:=HA.out
   clear HA
   simp only [numnahlaw01_CardChecks.j0] at H
   have H':=Aside0.mk H
   clear H
   go_wp2
   go_loopg [11,12] kj7 (fun kq v11 v12 w'=>∃ (x11_2:Bool) (x12_2:Int),v11 = .bool x11_2 ∧ v12 = .int .i64 x12_2 ∧ Aside0 (numnahlaw01_CardChecks.l0 kq t375 t376 t379 t380 t381 t382 x11_2 x12_2 = some r) ∧ Aside0 (kq ≤ kj7) ∧ Aside0 (Kd.R Kd.string 9 w' w.heap.size (fun _=>True) (.slice Ao11 t376.length co11) t376) ∧ Aside0 (Below w.heap.size w w'))
   case atStart=>exact ⟨(x11_7),(0),(by first | rfl | (simp;done) | (simp [*];done)),(by first | rfl | (simp;done) | (simp [*];done)),H',⟨Nat.le_refl _⟩,⟨by (with_reducible repeat (first | apply Kd.R_alloc | apply Kd.R_drewN | apply Kd.R_drew));exact HO_6.out⟩,⟨by repeat (first | (with_reducible first | exact HB.out | apply below_alloc | apply pw_below_drewN | apply below_drew1) | exact HB.out)⟩⟩
   case round =>
    clear H'
    try clear c1
    try clear c2
    try clear p2
    try clear c4
    try clear c10
    try clear c14
    try clear c14b0
    try clear p2
    obtain ⟨x11_2,x12_2,rfl,rfl,HA,HK2,HO_6,HB⟩:=hrel
    cases gk with
    | zero=>exact absurd HA.out (by simp [numnahlaw01_CardChecks.l0])
    | succ k2 =>
     have H:=HA.out
     clear HA
     simp only [numnahlaw01_CardChecks.l0] at H
     by_cases c15:x12_2 < (t376.length:Int)
     ·rw [if_pos c15] at H
      have c15b0:decide (x12_2 < (t376.length:Int)) = true:=decide_eq_true c15
      clear c15
      by_cases c16:x11_2 = true
      case neg =>
       replace c16:=Bool.eq_false_iff.mpr c16
       subst c16
       have H1:(numnahlaw01_CardChecks.l0 k2 t375 t376 t379 t380 t381 t382 false (wrap64 (x12_2 + 1))) = some r:=by rw [if_neg (show ¬ (false = true) by decide)] at H;exact H
       clear H
       have H:=H1
       clear H1
       have H':=Aside0.mk H
       clear H
       go_wp2
       go_roundg k2
       case measure=>have:=HJ7.out;have:=HK2.out;omega
       case rel=>exact ⟨(false),(wrap64 (x12_2 + 1)),(by first | rfl | (simp;done) | (simp [*];done)),(by first | rfl | (simp;done) | (simp [*];done)),H',⟨by have:=HJ7.out;have:=HK2.out;omega⟩,⟨by (with_reducible repeat (first | apply Kd.R_alloc | apply Kd.R_drewN | apply Kd.R_drew));exact HO_6.out⟩,⟨by repeat (first | (with_reducible first | exact HB.out | apply below_alloc | apply pw_below_drewN | apply below_drew1) | exact HB.out)⟩⟩
      subst c16
      have H1:(if 0 ≤ x12_2 then ((numnahref01_Cube.f k2 (rdOf ByteArray.empty t376 x12_2) t382).bind fun t384=>(numnahlaw01_CardChecks.l0 k2 t375 t376 t379 t380 t381 t382 t384 (wrap64 (x12_2 + 1)))) else (none)) = some r:=by rw [if_pos rfl] at H;exact H
      clear H
      have H:=H1
      clear H1
      by_cases c17:0 ≤ x12_2
      case neg =>
       rw [if_neg c17] at H
       exact absurd H (by simp)
      rw [if_pos c17] at H
      have c17b0:decide (0 ≤ x12_2) = true:=decide_eq_true c17
      clear c17
      replace H:=Option.bind_eq_some_iff.mp H
      obtain ⟨t384,A180,H⟩:=H
      replace H:(numnahlaw01_CardChecks.l0 k2 t375 t376 t379 t380 t381 t382 t384 (wrap64 (x12_2 + 1))) = some r:=H
      have A18:=Aside0.mk A180
      clear A180
      have H':=Aside0.mk H
      clear H
      have p383:0 ≤ (x12_2:Int):=of_decide_eq_true (by first | (with_reducible assumption) | assumption)
      have q383:x12_2 < (t376.length:Int):=of_decide_eq_true (by first | (with_reducible assumption) | assumption)
      obtain ⟨ad383,e383,hx383_0⟩:=Kd.at_string (Kd.R_reads' HO_6.out).2.2 x12_2 p383 q383
      cases e383
      replace p383:=eq_true p383
      replace q383:=eq_true q383
      go_wp2_with (first | (go_at_call 30;(with_reducible refine (numnahref01_Cube.calls k2 (rdOf ByteArray.empty t376 x12_2) t382 t384 _ A18.out).mono ?_);rintro e w' ⟨rfl,⟨nd,rfl⟩⟩))
      go_roundg k2
      case measure=>have:=HJ7.out;have:=HK2.out;omega
      case rel=>exact ⟨(t384),(wrap64 (x12_2 + 1)),(by first | rfl | (simp;done) | (simp [*];done)),(by first | rfl | (simp;done) | (simp [*];done)),H',⟨by have:=HJ7.out;have:=HK2.out;omega⟩,⟨by (with_reducible repeat (first | apply Kd.R_alloc | apply Kd.R_drewN | apply Kd.R_drew));exact HO_6.out⟩,⟨by repeat (first | (with_reducible first | exact HB.out | apply below_alloc | apply pw_below_drewN | apply below_drew1) | exact HB.out)⟩⟩
     rw [if_neg c15] at H
     have c15b0:decide (x12_2 < (t376.length:Int)) = false:=decide_eq_false c15
     clear c15
     by_cases c19:x11_2 = true
     case neg =>
      replace c19:=Bool.eq_false_iff.mpr c19
      subst c19
      have H1:(if t379 = 2 then (if t380 = true then (some false) else (if t381 = 2 then ((numnahlaw01_awake.f).bind fun t385=>(some t385)) else (some false))) else (some false)) = some r:=by rw [if_neg (show ¬ (false = true) by decide)] at H;exact H
      clear H
      have H:=H1
      clear H1
      by_cases c49:t379 = 2
      case neg =>
       rw [if_neg c49] at H
       have c49b0:(t379 == 2) = false:=beq_eq_false_iff_ne.mpr c49
       have c49b1:(t379 != 2) = true:=bne_iff_ne.mpr c49
       obtain rfl:=Option.some.inj H
       go_wp2
       go_ret
       exact ⟨by first | rfl | (simp [errW_none,errW_some] <;> rfl) | (simp [*,errW_none,errW_some] <;> rfl),by repeat (first | (with_reducible first | exact HB.out | apply below_alloc | apply pw_below_drewN | apply below_drew1) | exact HB.out)⟩
      rw [if_pos c49] at H
      have c49b0:(t379 == 2) = true:=beq_iff_eq.mpr c49
      have c49b1:(t379 != 2) = false:=bne_eq_false_iff_eq.mpr c49
      clear c49
      by_cases c50:t380 = true
      ·subst c50
       have H1:(some false) = some r:=by rw [if_pos rfl] at H;exact H
       clear H
       have H:=H1
       clear H1
       obtain rfl:=Option.some.inj H
       go_wp2
       go_ret
       exact ⟨by first | rfl | (simp [errW_none,errW_some] <;> rfl) | (simp [*,errW_none,errW_some] <;> rfl),by repeat (first | (with_reducible first | exact HB.out | apply below_alloc | apply pw_below_drewN | apply below_drew1) | exact HB.out)⟩
      replace c50:=Bool.eq_false_iff.mpr c50
      subst c50
      have H1:(if t381 = 2 then ((numnahlaw01_awake.f).bind fun t385=>(some t385)) else (some false)) = some r:=by rw [if_neg (show ¬ (false = true) by decide)] at H;exact H
      clear H
      have H:=H1
      clear H1
      by_cases c51:t381 = 2
      case neg =>
       rw [if_neg c51] at H
       have c51b0:(t381 == 2) = false:=beq_eq_false_iff_ne.mpr c51
       have c51b1:(t381 != 2) = true:=bne_iff_ne.mpr c51
       obtain rfl:=Option.some.inj H
       go_wp2
       go_ret
       exact ⟨by first | rfl | (simp [errW_none,errW_some] <;> rfl) | (simp [*,errW_none,errW_some] <;> rfl),by repeat (first | (with_reducible first | exact HB.out | apply below_alloc | apply pw_below_drewN | apply below_drew1) | exact HB.out)⟩
      rw [if_pos c51] at H
      have c51b0:(t381 == 2) = true:=beq_iff_eq.mpr c51
      have c51b1:(t381 != 2) = false:=bne_eq_false_iff_eq.mpr c51
      clear c51
      replace H:=Option.bind_eq_some_iff.mp H
      obtain ⟨t385,A520,H⟩:=H
      replace H:(some t385) = some r:=H
      have A52:=Aside0.mk A520
      clear A520
      obtain rfl:=Option.some.inj H
      go_wp2_with (first | (go_at_call 22;(with_reducible refine (numnahlaw01_awake.calls  t385 _ A52.out).mono ?_);rintro e w53 ⟨rfl,hb⟩;have n0_:=Aside0.mk (Kd.R_below (by (with_reducible repeat (first | apply Kd.R_alloc | apply Kd.R_drewN | apply Kd.R_drew));exact HO_6.out) hb);have n1_:=Aside0.mk (below_step (by repeat (first | (with_reducible first | exact HB.out | apply below_alloc | apply pw_below_drewN | apply below_drew1) | exact HB.out)) hb);clear HO_6;clear HB;have HO_6:=n0_;have HB:=n1_;clear n0_ n1_;(try clear hb)))
      go_ret
      exact ⟨by first | rfl | (simp [errW_none,errW_some] <;> rfl) | (simp [*,errW_none,errW_some] <;> rfl),by repeat (first | (with_reducible first | exact HB.out | apply below_alloc | apply pw_below_drewN | apply below_drew1) | exact HB.out)⟩
     subst c19
     have H1:((numnahref01_Covers.f k2 t375 t376).bind fun t386=>(if t386 = true then (numnahlaw01_CardChecks.l1 k2 t375 t376 t379 t380 t381 true 0) else (if t379 = 10 then (if t380 = true then (some false) else (if t381 = 10 then ((numnahlaw01_awake.f).bind fun t387=>(some t387)) else (some false))) else (some false)))) = some r:=by rw [if_pos rfl] at H;exact H
     clear H
     have H:=H1
     clear H1
     replace H:=Option.bind_eq_some_iff.mp H
     obtain ⟨t386,A200,H⟩:=H
     replace H:(if t386 = true then (numnahlaw01_CardChecks.l1 k2 t375 t376 t379 t380 t381 true 0) else (if t379 = 10 then (if t380 = true then (some false) else (if t381 = 10 then ((numnahlaw01_awake.f).bind fun t387=>(some t387)) else (some false))) else (some false))) = some r:=H
     have A20:=Aside0.mk A200
     clear A200
     by_cases c21:t386 = true
     case neg =>
      replace c21:=Bool.eq_false_iff.mpr c21
      subst c21
      have H1:(if t379 = 10 then (if t380 = true then (some false) else (if t381 = 10 then ((numnahlaw01_awake.f).bind fun t387=>(some t387)) else (some false))) else (some false)) = some r:=by rw [if_neg (show ¬ (false = true) by decide)] at H;exact H
      clear H
      have H:=H1
      clear H1
      by_cases c44:t379 = 10
      case neg =>
       rw [if_neg c44] at H
       have c44b0:(t379 == 10) = false:=beq_eq_false_iff_ne.mpr c44
       have c44b1:(t379 != 10) = true:=bne_iff_ne.mpr c44
       obtain rfl:=Option.some.inj H
       go_wp2_with (first | ((with_reducible refine gate_callee (f:=33) rfl ?_);refine goesL_ (some 69) rfl rfl Try.func33 (by kernel_rfl) rfl #[.string t375,.slice Ao11 t376.length co11] rfl (by (try simp only [List.map_toArray,List.map_cons,List.map_nil]);first | done | rfl | (simp only [List.length_drop,List.length_take];rfl)) ?_;(with_reducible refine (numnahref01_Covers.calls k2 t375 _ _ t376 false _ ?side1 ?side2 A20.out).mono ?_);(case side1=>repeat (first | exact (Kd.R_reads' HO_6.out).2.2 | (with_reducible refine Kd.C_alloc ?_ _) | (with_reducible refine Kd.C_drewN ?_ _) | (with_reducible refine Kd.C_drew ?_)));(case side2=>exact (Kd.R_reads' HO_6.out).2.1);rintro e w' ⟨rfl,⟨nd,rfl⟩⟩;refine ⟨_,rfl,?_⟩))
       go_ret
       exact ⟨by first | rfl | (simp [errW_none,errW_some] <;> rfl) | (simp [*,errW_none,errW_some] <;> rfl),by repeat (first | (with_reducible first | exact HB.out | apply below_alloc | apply pw_below_drewN | apply below_drew1) | exact HB.out)⟩
      rw [if_pos c44] at H
      have c44b0:(t379 == 10) = true:=beq_iff_eq.mpr c44
      have c44b1:(t379 != 10) = false:=bne_eq_false_iff_eq.mpr c44
      clear c44
      by_cases c45:t380 = true
      ·subst c45
       have H1:(some false) = some r:=by rw [if_pos rfl] at H;exact H
       clear H
       have H:=H1
       clear H1
       obtain rfl:=Option.some.inj H
       go_wp2_with (first | ((with_reducible refine gate_callee (f:=33) rfl ?_);refine goesL_ (some 69) rfl rfl Try.func33 (by kernel_rfl) rfl #[.string t375,.slice Ao11 t376.length co11] rfl (by (try simp only [List.map_toArray,List.map_cons,List.map_nil]);first | done | rfl | (simp only [List.length_drop,List.length_take];rfl)) ?_;(with_reducible refine (numnahref01_Covers.calls k2 t375 _ _ t376 false _ ?side1 ?side2 A20.out).mono ?_);(case side1=>repeat (first | exact (Kd.R_reads' HO_6.out).2.2 | (with_reducible refine Kd.C_alloc ?_ _) | (with_reducible refine Kd.C_drewN ?_ _) | (with_reducible refine Kd.C_drew ?_)));(case side2=>exact (Kd.R_reads' HO_6.out).2.1);rintro e w' ⟨rfl,⟨nd,rfl⟩⟩;refine ⟨_,rfl,?_⟩))
       go_ret
       exact ⟨by first | rfl | (simp [errW_none,errW_some] <;> rfl) | (simp [*,errW_none,errW_some] <;> rfl),by repeat (first | (with_reducible first | exact HB.out | apply below_alloc | apply pw_below_drewN | apply below_drew1) | exact HB.out)⟩
      replace c45:=Bool.eq_false_iff.mpr c45
      subst c45
      have H1:(if t381 = 10 then ((numnahlaw01_awake.f).bind fun t387=>(some t387)) else (some false)) = some r:=by rw [if_neg (show ¬ (false = true) by decide)] at H;exact H
      clear H
      have H:=H1
      clear H1
      by_cases c46:t381 = 10
      case neg =>
       rw [if_neg c46] at H
       have c46b0:(t381 == 10) = false:=beq_eq_false_iff_ne.mpr c46
       have c46b1:(t381 != 10) = true:=bne_iff_ne.mpr c46
       obtain rfl:=Option.some.inj H
       go_wp2_with (first | ((with_reducible refine gate_callee (f:=33) rfl ?_);refine goesL_ (some 69) rfl rfl Try.func33 (by kernel_rfl) rfl #[.string t375,.slice Ao11 t376.length co11] rfl (by (try simp only [List.map_toArray,List.map_cons,List.map_nil]);first | done | rfl | (simp only [List.length_drop,List.length_take];rfl)) ?_;(with_reducible refine (numnahref01_Covers.calls k2 t375 _ _ t376 false _ ?side1 ?side2 A20.out).mono ?_);(case side1=>repeat (first | exact (Kd.R_reads' HO_6.out).2.2 | (with_reducible refine Kd.C_alloc ?_ _) | (with_reducible refine Kd.C_drewN ?_ _) | (with_reducible refine Kd.C_drew ?_)));(case side2=>exact (Kd.R_reads' HO_6.out).2.1);rintro e w' ⟨rfl,⟨nd,rfl⟩⟩;refine ⟨_,rfl,?_⟩))
       go_ret
       exact ⟨by first | rfl | (simp [errW_none,errW_some] <;> rfl) | (simp [*,errW_none,errW_some] <;> rfl),by repeat (first | (with_reducible first | exact HB.out | apply below_alloc | apply pw_below_drewN | apply below_drew1) | exact HB.out)⟩
      rw [if_pos c46] at H
      have c46b0:(t381 == 10) = true:=beq_iff_eq.mpr c46
      have c46b1:(t381 != 10) = false:=bne_eq_false_iff_eq.mpr c46
      clear c46
      replace H:=Option.bind_eq_some_iff.mp H
      obtain ⟨t387,A470,H⟩:=H
      replace H:(some t387) = some r:=H
      have A47:=Aside0.mk A470
      clear A470
      obtain rfl:=Option.some.inj H
      go_wp2_with (first | ((with_reducible refine gate_callee (f:=33) rfl ?_);refine goesL_ (some 69) rfl rfl Try.func33 (by kernel_rfl) rfl #[.string t375,.slice Ao11 t376.length co11] rfl (by (try simp only [List.map_toArray,List.map_cons,List.map_nil]);first | done | rfl | (simp only [List.length_drop,List.length_take];rfl)) ?_;(with_reducible refine (numnahref01_Covers.calls k2 t375 _ _ t376 false _ ?side1 ?side2 A20.out).mono ?_);(case side1=>repeat (first | exact (Kd.R_reads' HO_6.out).2.2 | (with_reducible refine Kd.C_alloc ?_ _) | (with_reducible refine Kd.C_drewN ?_ _) | (with_reducible refine Kd.C_drew ?_)));(case side2=>exact (Kd.R_reads' HO_6.out).2.1);rintro e w' ⟨rfl,⟨nd,rfl⟩⟩;refine ⟨_,rfl,?_⟩) | (go_at_call 22;(with_reducible refine (numnahlaw01_awake.calls  t387 _ A47.out).mono ?_);rintro e w48 ⟨rfl,hb⟩;have n0_:=Aside0.mk (Kd.R_below (by (with_reducible repeat (first | apply Kd.R_alloc | apply Kd.R_drewN | apply Kd.R_drew));exact HO_6.out) hb);have n1_:=Aside0.mk (below_step (by repeat (first | (with_reducible first | exact HB.out | apply below_alloc | apply pw_below_drewN | apply below_drew1) | exact HB.out)) hb);clear HO_6;clear HB;have HO_6:=n0_;have HB:=n1_;clear n0_ n1_;(try clear hb)))
      go_ret
      exact ⟨by first | rfl | (simp [errW_none,errW_some] <;> rfl) | (simp [*,errW_none,errW_some] <;> rfl),by repeat (first | (with_reducible first | exact HB.out | apply below_alloc | apply pw_below_drewN | apply below_drew1) | exact HB.out)⟩
     subst c21
     have H1:(numnahlaw01_CardChecks.l1 k2 t375 t376 t379 t380 t381 true 0) = some r:=by rw [if_pos rfl] at H;exact H
     clear H
     have H:=H1
     clear H1
     have H':=Aside0.mk H
     clear H
     go_wp2_with (first | ((with_reducible refine gate_callee (f:=33) rfl ?_);refine goesL_ (some 69) rfl rfl Try.func33 (by kernel_rfl) rfl #[.string t375,.slice Ao11 t376.length co11] rfl (by (try simp only [List.map_toArray,List.map_cons,List.map_nil]);first | done | rfl | (simp only [List.length_drop,List.length_take];rfl)) ?_;(with_reducible refine (numnahref01_Covers.calls k2 t375 _ _ t376 true _ ?side1 ?side2 A20.out).mono ?_);(case side1=>repeat (first | exact (Kd.R_reads' HO_6.out).2.2 | (with_reducible refine Kd.C_alloc ?_ _) | (with_reducible refine Kd.C_drewN ?_ _) | (with_reducible refine Kd.C_drew ?_)));(case side2=>exact (Kd.R_reads' HO_6.out).2.1);rintro e w' ⟨rfl,⟨nd,rfl⟩⟩;refine ⟨_,rfl,?_⟩))
     go_loopg [13,14] k2 (fun kq v13 v14 w'=>∃ (x13_3:Bool) (x14_3:Int),v13 = .bool x13_3 ∧ v14 = .int .i64 x14_3 ∧ Aside0 (numnahlaw01_CardChecks.l1 kq t375 t376 t379 t380 t381 x13_3 x14_3 = some r) ∧ Aside0 (kq ≤ k2) ∧ Aside0 (Kd.R Kd.string 9 w' w.heap.size (fun _=>True) (.slice Ao11 t376.length co11) t376) ∧ Aside0 (Below w.heap.size w w'))
     case atStart=>exact ⟨(true),(0),(by first | rfl | (simp;done) | (simp [*];done)),(by first | rfl | (simp;done) | (simp [*];done)),H',⟨Nat.le_refl _⟩,⟨by (with_reducible repeat (first | apply Kd.R_alloc | apply Kd.R_drewN | apply Kd.R_drew));exact HO_6.out⟩,⟨by repeat (first | (with_reducible first | exact HB.out | apply below_alloc | apply pw_below_drewN | apply below_drew1) | exact HB.out)⟩⟩
     case round =>
      clear H'
      try clear c1
      try clear c2
      try clear p2
      try clear c3
      try clear p3
      try clear q3
      try clear hx3
      try clear c4
      try clear p6
      try clear c10
      try clear c14
      try clear c14b0
      try clear c15
      try clear c15b0
      try clear c16
      try clear c17
      try clear c17b0
      try clear c19
      try clear c21
      try clear hx383_0
      try clear p2
      try clear p383
      try clear q383
      obtain ⟨x13_3,x14_3,rfl,rfl,HA,HK3,HO_6,HB⟩:=hrel
      cases gk with
      | zero=>exact absurd HA.out (by simp [numnahlaw01_CardChecks.l1])
      | succ k3 =>
       have H:=HA.out
       clear HA
       simp only [numnahlaw01_CardChecks.l1] at H
       by_cases c22:x14_3 < (t376.length:Int)
       case neg =>
        rw [if_neg c22] at H
        have c22b0:decide (x14_3 < (t376.length:Int)) = false:=decide_eq_false c22
        clear c22
        by_cases c39:t379 = 0
        case neg =>
         rw [if_neg c39] at H
         have c39b0:(t379 == 0) = false:=beq_eq_false_iff_ne.mpr c39
         have c39b1:(t379 != 0) = true:=bne_iff_ne.mpr c39
         obtain rfl:=Option.some.inj H
         go_wp2
         go_ret
         exact ⟨by first | rfl | (simp [errW_none,errW_some] <;> rfl) | (simp [*,errW_none,errW_some] <;> rfl),by repeat (first | (with_reducible first | exact HB.out | apply below_alloc | apply pw_below_drewN | apply below_drew1) | exact HB.out)⟩
        rw [if_pos c39] at H
        have c39b0:(t379 == 0) = true:=beq_iff_eq.mpr c39
        have c39b1:(t379 != 0) = false:=bne_eq_false_iff_eq.mpr c39
        clear c39
        by_cases c40:(t380 == x13_3) = true
        case neg =>
         rw [if_neg c40] at H
         have c40b0:(t380 == x13_3) = false:=by simpa using c40
         (try (have c40b1:decide (t380 = x13_3) = false:=by simpa using c40))
         (try (have c40b2:(t380 == x13_3) = false:=by simpa using c40))
         (try (have c40b3:¬ (t380 = x13_3):=by simpa using c40))
         clear c40
         obtain rfl:=Option.some.inj H
         go_wp2
         go_ret
         exact ⟨by first | rfl | (simp [errW_none,errW_some] <;> rfl) | (simp [*,errW_none,errW_some] <;> rfl),by repeat (first | (with_reducible first | exact HB.out | apply below_alloc | apply pw_below_drewN | apply below_drew1) | exact HB.out)⟩
        rw [if_pos c40] at H
        have c40b0:(t380 == x13_3) = true:=c40
        (try (have c40b1:decide (t380 = x13_3) = true:=by simpa using c40))
        (try (have c40b2:(t380 == x13_3) = true:=by simpa using c40))
        clear c40
        by_cases c41:t381 = 0
        case neg =>
         rw [if_neg c41] at H
         have c41b0:(t381 == 0) = false:=beq_eq_false_iff_ne.mpr c41
         have c41b1:(t381 != 0) = true:=bne_iff_ne.mpr c41
         obtain rfl:=Option.some.inj H
         go_wp2
         go_ret
         exact ⟨by first | rfl | (simp [errW_none,errW_some] <;> rfl) | (simp [*,errW_none,errW_some] <;> rfl),by repeat (first | (with_reducible first | exact HB.out | apply below_alloc | apply pw_below_drewN | apply below_drew1) | exact HB.out)⟩
        rw [if_pos c41] at H
        have c41b0:(t381 == 0) = true:=beq_iff_eq.mpr c41
        have c41b1:(t381 != 0) = false:=bne_eq_false_iff_eq.mpr c41
        clear c41
        replace H:=Option.bind_eq_some_iff.mp H
        obtain ⟨t403,A420,H⟩:=H
        replace H:(some t403) = some r:=H
        have A42:=Aside0.mk A420
        clear A420
        obtain rfl:=Option.some.inj H
        go_wp2_with (first | (go_at_call 22;(with_reducible refine (numnahlaw01_awake.calls  t403 _ A42.out).mono ?_);rintro e w43 ⟨rfl,hb⟩;have n0_:=Aside0.mk (Kd.R_below (by (with_reducible repeat (first | apply Kd.R_alloc | apply Kd.R_drewN | apply Kd.R_drew));exact HO_6.out) hb);have n1_:=Aside0.mk (below_step (by repeat (first | (with_reducible first | exact HB.out | apply below_alloc | apply pw_below_drewN | apply below_drew1) | exact HB.out)) hb);clear HO_6;clear HB;have HO_6:=n0_;have HB:=n1_;clear n0_ n1_;(try clear hb)))
        go_ret
        exact ⟨by first | rfl | (simp [errW_none,errW_some] <;> rfl) | (simp [*,errW_none,errW_some] <;> rfl),by repeat (first | (with_reducible first | exact HB.out | apply below_alloc | apply pw_below_drewN | apply below_drew1) | exact HB.out)⟩
       rw [if_pos c22] at H
       have c22b0:decide (x14_3 < (t376.length:Int)) = true:=decide_eq_true c22
       clear c22
       by_cases c23:x13_3 = true
       case neg =>
        replace c23:=Bool.eq_false_iff.mpr c23
        subst c23
        have H1:(numnahlaw01_CardChecks.l1 k3 t375 t376 t379 t380 t381 false (wrap64 (x14_3 + 1))) = some r:=by rw [if_neg (show ¬ (false = true) by decide)] at H;exact H
        clear H
        have H:=H1
        clear H1
        have H':=Aside0.mk H
        clear H
        try go_wp2
        have n0_:=Aside0.mk (Kd.R_drew HO_6.out)
        have n1_:=Aside0.mk (below_drew1 HB.out)
        clear HO_6
        clear HB
        have HO_6:=n0_
        have HB:=n1_
        clear n0_ n1_
        refine start_ (n:=16) (S:=fun w'=>True) (ds:=[]) #[false,false,false,false,false,false,false,false,false,false,false,false,false,false,false,false] (by kernel_rfl) rfl rfl trivial (fun hHeld=>?_);refine with_tabW numnahlaw01_CardChecks.tab18 numnahlaw01_CardChecks.bits18 (fun HT_ HW_=>?_)
        generalize wr.drew = w38 at HO_6 HB hHeld ⊢
        refine pure_ (i:=0) (N:=some 90) (v:=?_) (a':=?_) #[true,false,false,false,false,false,false,false,false,false,false,false,false,false,false,false] rfl rfl (any_of HT_.out (by kernel_rfl)) (fun _ _ _ h=>h) (Or.inl ⟨by rfl,?_⟩) ?_ ?_
        rotate_left
        ·intro w'
         go_simp
         with_reducible rfl
        rotate_left
        ·simp only [Act.put,List.setIfInBounds_toArray,List.set_cons_zero,List.set_cons_succ,i64_w,i32_w]
         rfl
        refine pure_ (i:=1) (N:=some 91) (v:=?_) (a':=?_) #[true,true,false,false,false,false,false,false,false,false,false,false,false,false,false,false] rfl rfl (any_of HT_.out (by kernel_rfl)) (fun _ _ _ h=>h) (Or.inl ⟨by rfl,?_⟩) ?_ ?_
        rotate_left
        ·intro w'
         go_simp
         with_reducible rfl
        rotate_left
        ·simp only [Act.put,List.setIfInBounds_toArray,List.set_cons_zero,List.set_cons_succ,i64_w,i32_w]
         rfl
        refine pure_ (i:=2) (N:=some 92) (v:=undef) (a':=?_) #[true,true,true,false,false,false,false,false,false,false,false,false,false,false,false,false] rfl rfl (any_of HT_.out (by kernel_rfl)) (fun _ _ _ h=>h) (Or.inr ⟨by rfl,rfl⟩) ?_ ?_
        rotate_left
        ·simp only [Act.put,List.setIfInBounds_toArray,List.set_cons_zero,List.set_cons_succ,i64_w,i32_w]
         rfl
        refine pure_ (i:=3) (N:=some 93) (v:=undef) (a':=?_) #[true,true,true,true,false,false,false,false,false,false,false,false,false,false,false,false] rfl rfl (any_of HT_.out (by kernel_rfl)) (fun _ _ _ h=>h) (Or.inr ⟨by rfl,rfl⟩) ?_ ?_
        rotate_left
        ·simp only [Act.put,List.setIfInBounds_toArray,List.set_cons_zero,List.set_cons_succ,i64_w,i32_w]
         rfl
        refine pure_ (i:=4) (N:=some 94) (v:=undef) (a':=?_) #[true,true,true,true,true,false,false,false,false,false,false,false,false,false,false,false] rfl rfl (any_of HT_.out (by kernel_rfl)) (fun _ _ _ h=>h) (Or.inr ⟨by rfl,rfl⟩) ?_ ?_
        rotate_left
        ·simp only [Act.put,List.setIfInBounds_toArray,List.set_cons_zero,List.set_cons_succ,i64_w,i32_w]
         rfl
        refine pure_ (i:=5) (N:=some 95) (v:=undef) (a':=?_) #[true,true,true,true,true,true,false,false,false,false,false,false,false,false,false,false] rfl rfl (any_of HT_.out (by kernel_rfl)) (fun _ _ _ h=>h) (Or.inr ⟨by rfl,rfl⟩) ?_ ?_
        rotate_left
        ·simp only [Act.put,List.setIfInBounds_toArray,List.set_cons_zero,List.set_cons_succ,i64_w,i32_w]
         rfl
        refine pure_ (i:=6) (N:=some 96) (v:=undef) (a':=?_) #[true,true,true,true,true,true,true,false,false,false,false,false,false,false,false,false] rfl rfl (any_of HT_.out (by kernel_rfl)) (fun _ _ _ h=>h) (Or.inr ⟨by rfl,rfl⟩) ?_ ?_
        rotate_left
        ·simp only [Act.put,List.setIfInBounds_toArray,List.set_cons_zero,List.set_cons_succ,i64_w,i32_w]
         rfl
        refine pure_ (i:=7) (N:=some 97) (v:=undef) (a':=?_) #[true,true,true,true,true,true,true,true,false,false,false,false,false,false,false,false] rfl rfl (any_of HT_.out (by kernel_rfl)) (fun _ _ _ h=>h) (Or.inr ⟨by rfl,rfl⟩) ?_ ?_
        rotate_left
        ·simp only [Act.put,List.setIfInBounds_toArray,List.set_cons_zero,List.set_cons_succ,i64_w,i32_w]
         rfl
        refine pure_ (i:=8) (N:=some 98) (v:=undef) (a':=?_) #[true,true,true,true,true,true,true,true,true,false,false,false,false,false,false,false] rfl rfl (any_of HT_.out (by kernel_rfl)) (fun _ _ _ h=>h) (Or.inr ⟨by rfl,rfl⟩) ?_ ?_
        rotate_left
        ·simp only [Act.put,List.setIfInBounds_toArray,List.set_cons_zero,List.set_cons_succ,i64_w,i32_w]
         rfl
        refine pure_ (i:=9) (N:=some 99) (v:=undef) (a':=?_) #[true,true,true,true,true,true,true,true,true,true,false,false,false,false,false,false] rfl rfl (any_of HT_.out (by kernel_rfl)) (fun _ _ _ h=>h) (Or.inr ⟨by rfl,rfl⟩) ?_ ?_
        rotate_left
        ·simp only [Act.put,List.setIfInBounds_toArray,List.set_cons_zero,List.set_cons_succ,i64_w,i32_w]
         rfl
        refine pure_ (i:=10) (N:=some 100) (v:=undef) (a':=?_) #[true,true,true,true,true,true,true,true,true,true,true,false,false,false,false,false] rfl rfl (any_of HT_.out (by kernel_rfl)) (fun _ _ _ h=>h) (Or.inr ⟨by rfl,rfl⟩) ?_ ?_
        rotate_left
        ·simp only [Act.put,List.setIfInBounds_toArray,List.set_cons_zero,List.set_cons_succ,i64_w,i32_w]
         rfl
        refine pure_ (i:=11) (N:=some 101) (v:=undef) (a':=?_) #[true,true,true,true,true,true,true,true,true,true,true,true,false,false,false,false] rfl rfl (any_of HT_.out (by kernel_rfl)) (fun _ _ _ h=>h) (Or.inr ⟨by rfl,rfl⟩) ?_ ?_
        rotate_left
        ·simp only [Act.put,List.setIfInBounds_toArray,List.set_cons_zero,List.set_cons_succ,i64_w,i32_w]
         rfl
        refine pure_ (i:=12) (N:=some 102) (v:=undef) (a':=?_) #[true,true,true,true,true,true,true,true,true,true,true,true,true,false,false,false] rfl rfl (any_of HT_.out (by kernel_rfl)) (fun _ _ _ h=>h) (Or.inr ⟨by rfl,rfl⟩) ?_ ?_
        rotate_left
        ·simp only [Act.put,List.setIfInBounds_toArray,List.set_cons_zero,List.set_cons_succ,i64_w,i32_w]
         rfl
        refine pure_ (i:=13) (N:=some 103) (v:=undef) (a':=?_) #[true,true,true,true,true,true,true,true,true,true,true,true,true,true,false,false] rfl rfl (any_of HT_.out (by kernel_rfl)) (fun _ _ _ h=>h) (Or.inr ⟨by rfl,rfl⟩) ?_ ?_
        rotate_left
        ·simp only [Act.put,List.setIfInBounds_toArray,List.set_cons_zero,List.set_cons_succ,i64_w,i32_w]
         rfl
        refine pure_ (i:=14) (N:=some 104) (v:=?_) (a':=?_) #[true,true,true,true,true,true,true,true,true,true,true,true,true,true,true,false] rfl rfl (any_of HT_.out (by kernel_rfl)) (fun _ _ _ h=>h) (Or.inl ⟨by rfl,?_⟩) ?_ ?_
        rotate_left
        ·intro w'
         go_simp
         with_reducible rfl
        rotate_left
        ·simp only [Act.put,List.setIfInBounds_toArray,List.set_cons_zero,List.set_cons_succ,i64_w,i32_w]
         rfl
        refine pure_ (i:=15) (N:=some 13) (v:=?_) (a':=?_) #[true,true,true,true,true,true,true,true,true,true,true,true,true,true,true,true] rfl rfl (any_of HT_.out (by kernel_rfl)) (fun _ _ _ h=>h) (Or.inl ⟨by rfl,?_⟩) ?_ ?_
        rotate_left
        ·intro w'
         go_simp
         with_reducible rfl
        rotate_left
        ·simp only [Act.put,List.setIfInBounds_toArray,List.set_cons_zero,List.set_cons_succ,i64_w,i32_w]
         rfl
        refine done_ (done_of HT_.out (by kernel_rfl)) ?_
        try go_wp2
        go_roundg k3
        case measure=>have:=HJ7.out;have:=HK2.out;have:=HK3.out;omega
        case rel=>exact ⟨(false),(wrap64 (x14_3 + 1)),(by first | rfl | (simp;done) | (simp [*];done)),(by first | rfl | (simp;done) | (simp [*];done)),H',⟨by have:=HJ7.out;have:=HK2.out;have:=HK3.out;omega⟩,⟨by (with_reducible repeat (first | apply Kd.R_alloc | apply Kd.R_drewN | apply Kd.R_drew));exact HO_6.out⟩,⟨by repeat (first | (with_reducible first | exact HB.out | apply below_alloc | apply pw_below_drewN | apply below_drew1) | exact HB.out)⟩⟩
       subst c23
       have H1:(if 0 ≤ x14_3 then (if x14_3 ≤ (t376.length:Int) then ((numnahlaw01_few.f k3 (t376.take (x14_3:Int).toNat)).bind fun t392=>(if 0 ≤ (wrap64 (x14_3 + 1)) then (if (wrap64 (x14_3 + 1)) ≤ (t376.length:Int) then ((some (t376.drop ((wrap64 (x14_3 + 1)):Int).toNat:List ByteArray)).bind fun y395=>(if t392.length + y395.length < 8796093022208 then ((numnahref01_Covers.f k3 t375 (t392 ++ y395)).bind fun t402=>(numnahlaw01_CardChecks.l1 k3 t375 t376 t379 t380 t381 (!t402) (wrap64 (x14_3 + 1)))) else (none))) else (none)) else (none))) else (none)) else (none)) = some r:=by rw [if_pos rfl] at H;exact H
       clear H
       have H:=H1
       clear H1
       by_cases c24:0 ≤ x14_3
       case neg =>
        rw [if_neg c24] at H
        exact absurd H (by simp)
       rw [if_pos c24] at H
       have c24b0:=eq_true c24
       have c24b1:decide (0 ≤ x14_3) = true:=decide_eq_true c24
       clear c24
       by_cases c25:x14_3 ≤ (t376.length:Int)
       case neg =>
        rw [if_neg c25] at H
        exact absurd H (by simp)
       rw [if_pos c25] at H
       have c25b0:=eq_true c25
       have c25b1:decide (x14_3 ≤ (t376.length:Int)) = true:=decide_eq_true c25
       clear c25
       obtain ⟨y388,hy388⟩:∃ y_:List ByteArray,y_ = (t376.take (x14_3:Int).toNat):=⟨_,rfl⟩
       replace H:((numnahlaw01_few.f k3 y388).bind fun t392=>(if 0 ≤ (wrap64 (x14_3 + 1)) then (if (wrap64 (x14_3 + 1)) ≤ (t376.length:Int) then ((some (t376.drop ((wrap64 (x14_3 + 1)):Int).toNat:List ByteArray)).bind fun y395=>(if t392.length + y395.length < 8796093022208 then ((numnahref01_Covers.f k3 t375 (t392 ++ y395)).bind fun t402=>(numnahlaw01_CardChecks.l1 k3 t375 t376 t379 t380 t381 (!t402) (wrap64 (x14_3 + 1)))) else (none))) else (none)) else (none))) = some r:=by first | (rw [hy388];with_reducible exact H) | (have H2_:=(Option.bind_some _ _).symm.trans H;rw [hy388];with_reducible exact H2_) | (have H2_:=(Option.bind_some _ _).symm.trans H;with_reducible exact H2_) | with_reducible exact H | (rw [hy388];exact H) | exact H
       have Ny388:=Aside0.mk hy388
       clear hy388
       replace H:=Option.bind_eq_some_iff.mp H
       obtain ⟨t392,A260,H⟩:=H
       replace H:(if 0 ≤ (wrap64 (x14_3 + 1)) then (if (wrap64 (x14_3 + 1)) ≤ (t376.length:Int) then ((some (t376.drop ((wrap64 (x14_3 + 1)):Int).toNat:List ByteArray)).bind fun y395=>(if t392.length + y395.length < 8796093022208 then ((numnahref01_Covers.f k3 t375 (t392 ++ y395)).bind fun t402=>(numnahlaw01_CardChecks.l1 k3 t375 t376 t379 t380 t381 (!t402) (wrap64 (x14_3 + 1)))) else (none))) else (none)) else (none)) = some r:=H
       have A26:=Aside0.mk A260
       clear A260
       obtain ⟨ji27,hji27⟩:∃ j_:Int,(wrap64 (x14_3 + 1)) = j_:=⟨_,rfl⟩
       replace H:(if 0 ≤ (ji27) then (if (ji27) ≤ (t376.length:Int) then ((some (t376.drop ((ji27):Int).toNat:List ByteArray)).bind fun y395=>(if t392.length + y395.length < 8796093022208 then ((numnahref01_Covers.f k3 t375 (t392 ++ y395)).bind fun t402=>(numnahlaw01_CardChecks.l1 k3 t375 t376 t379 t380 t381 (!t402) ji27)) else (none))) else (none)) else (none)) = some r:=by first | (rw [hji27] at H;exact H) | (simp only [hji27] at H ⊢;exact H)
       (try rw [hji27] at A26)
       have hji27w:(IntKind.i64.wrap (x14_3 + 1)) = ji27:=(i64_w _).trans hji27
       by_cases c28:0 ≤ (ji27)
       case neg =>
        rw [if_neg c28] at H
        exact absurd H (by simp)
       rw [if_pos c28] at H
       have c28b0:=eq_true c28
       have c28b1:decide (0 ≤ (ji27)) = true:=decide_eq_true c28
       clear c28
       by_cases c29:(ji27) ≤ (t376.length:Int)
       case neg =>
        rw [if_neg c29] at H
        exact absurd H (by simp)
       rw [if_pos c29] at H
       have c29b0:=eq_true c29
       have c29b1:decide ((ji27) ≤ (t376.length:Int)) = true:=decide_eq_true c29
       clear c29
       obtain ⟨y395,hy395⟩:∃ y_:List ByteArray,y_ = (t376.drop ((ji27):Int).toNat):=⟨_,rfl⟩
       replace H:(if t392.length + y395.length < 8796093022208 then ((numnahref01_Covers.f k3 t375 (t392 ++ y395)).bind fun t402=>(numnahlaw01_CardChecks.l1 k3 t375 t376 t379 t380 t381 (!t402) ji27)) else (none)) = some r:=by first | (rw [hy395];with_reducible exact H) | (have H2_:=(Option.bind_some _ _).symm.trans H;rw [hy395];with_reducible exact H2_) | (have H2_:=(Option.bind_some _ _).symm.trans H;with_reducible exact H2_) | with_reducible exact H | (rw [hy395];exact H) | exact H
       have Ny395:=Aside0.mk hy395
       clear hy395
       by_cases c30:t392.length + y395.length < 8796093022208
       case neg =>
        rw [if_neg c30] at H
        exact absurd H (by simp)
       rw [if_pos c30] at H
       have LMc30:=Aside0.mk c30
       clear c30
       obtain ⟨y399,hy399⟩:∃ y_:List ByteArray,y_ = (t392 ++ y395):=⟨_,rfl⟩
       replace H:((numnahref01_Covers.f k3 t375 y399).bind fun t402=>(numnahlaw01_CardChecks.l1 k3 t375 t376 t379 t380 t381 (!t402) ji27)) = some r:=by first | (rw [hy399];with_reducible exact H) | (have H2_:=(Option.bind_some _ _).symm.trans H;rw [hy399];with_reducible exact H2_) | (have H2_:=(Option.bind_some _ _).symm.trans H;with_reducible exact H2_) | with_reducible exact H | (rw [hy399];exact H) | exact H
       have Ny399:=Aside0.mk hy399
       clear hy399
       replace H:=Option.bind_eq_some_iff.mp H
       obtain ⟨t402,A310,H⟩:=H
       replace H:(numnahlaw01_CardChecks.l1 k3 t375 t376 t379 t380 t381 (!t402) ji27) = some r:=H
       have A31:=Aside0.mk A310
       clear A310
       have H':=Aside0.mk H
       clear H
       try go_wp2
       have n0_:=Aside0.mk (Kd.R_drew HO_6.out)
       have n1_:=Aside0.mk (below_drew1 HB.out)
       clear HO_6
       clear HB
       have HO_6:=n0_
       have HB:=n1_
       clear n0_ n1_
       have q33:(x14_3:Int) ≤ ((t376.length:Int):Int):=of_decide_eq_true (by first | (with_reducible assumption) | assumption)
       obtain ⟨i033,hi033,_,hsz33,_⟩:=info_parts info9
       have hroom33:t376.length ≤ co11:=(Kd.R_reads' HO_6.out).2.1
       have hC33:Kd.C Kd.string _ Ao11 t376.length t376:=(Kd.R_reads' HO_6.out).2.2
       have hcut33:=cut_to (P:=Try.prog) 39 9 .i64 Try.underlying39 hi033 Ao11 t376.length co11 x14_3 (of_decide_eq_true (by first | (with_reducible assumption) | assumption)) q33 hroom33
       have hr33:=Kd.C_take (m:=(x14_3:Int).toNat) hC33 (by omega)
       have hy33:y388.length = (x14_3:Int).toNat:=(by rw [Ny388.out,List.length_take];omega)
       rw [← Ny388.out] at hr33
       rw [← hy33] at hcut33
       have HR391:=Aside0.mk hr33
       have HC391:=Aside0.mk (show y388.length ≤ co11 from by omega)
       clear hr33 hC33 hroom33 hi033 hsz33
       have KY33:=Aside0.mk hy33
       clear hy33
       have KL33:=Aside0.mk (show (x14_3:Int).toNat ≤ t376.length from by omega)
       replace q33:=eq_true q33
       have q34:((ji27):Int) ≤ ((t376.length:Int):Int):=of_decide_eq_true (by first | (with_reducible assumption) | assumption)
       obtain ⟨i034,hi034,_,hsz34,_⟩:=info_parts info9
       have hroom34:t376.length ≤ co11:=(Kd.R_reads' HO_6.out).2.1
       have hC34:Kd.C Kd.string _ Ao11 t376.length t376:=(Kd.R_reads' HO_6.out).2.2
       have q034:(0:Int) ≤ ((ji27):Int):=of_decide_eq_true (by first | (with_reducible assumption) | assumption)
       have hcut34:=cut_from (P:=Try.prog) 39 9 .i64 Try.underlying39 hi034 1 hsz34 Ao11 t376.length co11 (ji27) q034 q34
       have hr34:=Kd.C_drop (m:=((ji27):Int).toNat) (c:=co11) hC34 (by omega) hroom34
       obtain ⟨A34,hA34⟩:∃ A1,A1 = (if co11 = ((ji27):Int).toNat then Ao11 else (Ao11:Option Addr).map (·.add (((ji27):Int).toNat * 1))):=⟨_,rfl⟩
       obtain ⟨c34,hc34⟩:∃ c1,c1 = co11 - ((ji27):Int).toNat:=⟨_,rfl⟩
       have hy34:y395.length = t376.length - ((ji27):Int).toNat:=(by rw [Ny395.out,List.length_drop] <;> omega)
       rw [show (t376).drop ((ji27):Int).toNat = y395 from Ny395.out.symm] at hr34
       replace hr34:Kd.C Kd.string _ A34 y395.length y395:=(by rw [hA34];exact hr34)
       rw [← hy34,← hA34,← hc34] at hcut34
       have HR398:=Aside0.mk hr34
       have HC398:=Aside0.mk (show y395.length ≤ c34 from by rw [hy34,hc34];exact Nat.sub_le_sub_right hroom34 _)
       clear hr34 hC34 hroom34 hi034 hsz34 hc34
       have KY34:=Aside0.mk hy34
       have KA34:=Aside0.mk hA34
       clear hy34 hA34
       have KL34:=Aside0.mk (show ((ji27):Int).toNat ≤ t376.length from by omega)
       replace q34:=eq_true q34
       refine start_ (n:=16) (S:=fun w'=>True) (ds:=[]) #[false,false,false,false,false,false,false,false,false,false,false,false,false,false,false,false] (by kernel_rfl) rfl rfl trivial (fun hHeld=>?_);refine with_tabW numnahlaw01_CardChecks.tab18 numnahlaw01_CardChecks.bits18 (fun HT_ HW_=>?_)
       generalize wr.drew = w32 at HO_6 HB HR391 HR398 hHeld ⊢
       refine pure_ (i:=0) (N:=some 90) (v:=?_) (a':=?_) #[true,false,false,false,false,false,false,false,false,false,false,false,false,false,false,false] rfl rfl (any_of HT_.out (by kernel_rfl)) (fun _ _ _ h=>h) (Or.inl ⟨by rfl,?_⟩) ?_ ?_
       rotate_left
       ·intro w'
        go_simp
        with_reducible rfl
       rotate_left
       ·simp only [Act.put,List.setIfInBounds_toArray,List.set_cons_zero,List.set_cons_succ,i64_w,i32_w]
        rfl
       refine pure_ (i:=1) (N:=some 91) (v:=?_) (a':=?_) #[true,true,false,false,false,false,false,false,false,false,false,false,false,false,false,false] rfl rfl (any_of HT_.out (by kernel_rfl)) (fun _ _ _ h=>h) (Or.inl ⟨by rfl,?_⟩) ?_ ?_
       rotate_left
       ·intro w'
        go_simp
        with_reducible rfl
       rotate_left
       ·simp only [Act.put,List.setIfInBounds_toArray,List.set_cons_zero,List.set_cons_succ,i64_w,i32_w]
        rfl
       refine pure_ (i:=2) (N:=some 92) (v:=?_) (a':=?_) #[true,true,true,false,false,false,false,false,false,false,false,false,false,false,false,false] rfl rfl (any_of HT_.out (by kernel_rfl)) (fun _ _ _ h=>h) (Or.inl ⟨by rfl,?_⟩) ?_ ?_
       rotate_left
       ·intro w'
        go_simp
        with_reducible rfl
       rotate_left
       ·simp only [Act.put,List.setIfInBounds_toArray,List.set_cons_zero,List.set_cons_succ,i64_w,i32_w]
        rfl
       refine pure_ (i:=3) (N:=some 93) (v:=?_) (a':=?_) #[true,true,true,true,false,false,false,false,false,false,false,false,false,false,false,false] rfl rfl (any_of HT_.out (by kernel_rfl)) (fun _ _ _ h=>h) (Or.inl ⟨by rfl,?_⟩) ?_ ?_
       rotate_left
       ·intro w'
        go_simp
        with_reducible rfl
       rotate_left
       ·simp only [Act.put,List.setIfInBounds_toArray,List.set_cons_zero,List.set_cons_succ,i64_w,i32_w]
        rfl
       refine pure_ (i:=4) (N:=some 94) (v:=?_) (a':=?_) #[true,true,true,true,true,false,false,false,false,false,false,false,false,false,false,false] rfl rfl (any_of HT_.out (by kernel_rfl)) (fun _ _ _ h=>h) (Or.inl ⟨by rfl,?_⟩) ?_ ?_
       rotate_left
       ·intro w'
        go_simp
        with_reducible rfl
       rotate_left
       ·simp only [Act.put,List.setIfInBounds_toArray,List.set_cons_zero,List.set_cons_succ,i64_w,i32_w]
        rfl
       refine pure_ (i:=5) (N:=some 95) (v:=?_) (a':=?_) #[true,true,true,true,true,true,false,false,false,false,false,false,false,false,false,false] rfl rfl (any_of HT_.out (by kernel_rfl)) (fun _ _ _ h=>h) (Or.inl ⟨by rfl,?_⟩) ?_ ?_
       rotate_left
       ·intro w'
        go_simp
        with_reducible rfl
       rotate_left
       ·simp only [Act.put,List.setIfInBounds_toArray,List.set_cons_zero,List.set_cons_succ,i64_w,i32_w]
        rfl
       refine pure_ (i:=7) (N:=some 97) (v:=?_) (a':=?_) #[true,true,true,true,true,true,false,true,false,false,false,false,false,false,false,false] rfl rfl (any_of HT_.out (by kernel_rfl)) (fun _ _ _ h=>h) (Or.inl ⟨by rfl,?_⟩) ?_ ?_
       rotate_left
       ·intro w'
        go_simp
        with_reducible rfl
       rotate_left
       ·simp only [Act.put,List.setIfInBounds_toArray,List.set_cons_zero,List.set_cons_succ,i64_w,i32_w]
        rfl
       refine pure_ (i:=8) (N:=some 98) (v:=?_) (a':=?_) #[true,true,true,true,true,true,false,true,true,false,false,false,false,false,false,false] rfl rfl (any_of HT_.out (by kernel_rfl)) (fun _ _ _ h=>h) (Or.inl ⟨by rfl,?_⟩) ?_ ?_
       rotate_left
       ·intro w'
        go_simp
        with_reducible rfl
       rotate_left
       ·simp only [Act.put,List.setIfInBounds_toArray,List.set_cons_zero,List.set_cons_succ,i64_w,i32_w]
        rfl
       refine pure_ (i:=9) (N:=some 99) (v:=?_) (a':=?_) #[true,true,true,true,true,true,false,true,true,true,false,false,false,false,false,false] rfl rfl (any_of HT_.out (by kernel_rfl)) (fun _ _ _ h=>h) (Or.inl ⟨by rfl,?_⟩) ?_ ?_
       rotate_left
       ·intro w'
        go_simp
        with_reducible rfl
       rotate_left
       ·simp only [Act.put,List.setIfInBounds_toArray,List.set_cons_zero,List.set_cons_succ,i64_w,i32_w]
        rfl
       refine pure_ (i:=10) (N:=some 100) (v:=?_) (a':=?_) #[true,true,true,true,true,true,false,true,true,true,true,false,false,false,false,false] rfl rfl (any_of HT_.out (by kernel_rfl)) (fun _ _ _ h=>h) (Or.inl ⟨by rfl,?_⟩) ?_ ?_
       rotate_left
       ·intro w'
        go_simp
        with_reducible rfl
       rotate_left
       ·simp only [Act.put,List.setIfInBounds_toArray,List.set_cons_zero,List.set_cons_succ,i64_w,i32_w]
        rfl
       refine one_ (i:=6) (N:=some 96) #[true,true,true,true,true,true,true,true,true,true,true,false,false,false,false,false] rfl rfl (one_of HT_.out (by kernel_rfl)) (by decide) (fun K hK=>?_)
       refine goes_ Try.func46 (by kernel_rfl) rfl #[.slice Ao11 y388.length co11] (by rfl) rfl rfl (by (try simp only [List.map_toArray,List.map_cons,List.map_nil]);first | done | rfl | (simp only [List.length_drop,List.length_take];rfl)) ?_
       with_reducible refine (numnahlaw01_few.calls k3 _ _ y388 t392 _ ?side1 ?side2 A26.out).mono ?_
       (case side1=>repeat (first | exact (by repeat (first | (with_reducible exact HR391.out) | (with_reducible refine Kd.C_alloc ?_ _) | (with_reducible refine Kd.C_drewN ?_ _) | (with_reducible refine Kd.C_drew ?_) | exact HR391.out)) | (with_reducible refine Kd.C_alloc ?_ _) | (with_reducible refine Kd.C_drewN ?_ _) | (with_reducible refine Kd.C_drew ?_)))
       (case side2=>exact HC391.out)
       rintro e w35 ⟨v393,rfl,ho0,hb⟩
       refine ⟨_,rfl,?_⟩
       have n0_:=Aside0.mk (Kd.R_elder' (by (with_reducible repeat (first | apply Kd.R_alloc | apply Kd.R_drewN | apply Kd.R_drew));exact HO_6.out) (Kd.R_base ho0) hb)
       have n1_:=Aside0.mk (Kd.R_lower (Kd.R_new' ho0 (Kd.R_lt (by (with_reducible repeat (first | apply Kd.R_alloc | apply Kd.R_drewN | apply Kd.R_drew));exact HO_6.out))) (below_size (by repeat (first | (with_reducible first | exact HB.out | apply below_alloc | apply pw_below_drewN | apply below_drew1) | exact HB.out))))
       have n2_:=Aside0.mk (Kd.C_below (by repeat (first | (with_reducible exact HR391.out) | (with_reducible refine Kd.C_alloc ?_ _) | (with_reducible refine Kd.C_drewN ?_ _) | (with_reducible refine Kd.C_drew ?_) | exact HR391.out)) hb)
       have n3_:=Aside0.mk (Kd.C_below (by repeat (first | (with_reducible exact HR398.out) | (with_reducible refine Kd.C_alloc ?_ _) | (with_reducible refine Kd.C_drewN ?_ _) | (with_reducible refine Kd.C_drew ?_) | exact HR398.out)) hb)
       have n4_:=Aside0.mk (below_step (by repeat (first | (with_reducible first | exact HB.out | apply below_alloc | apply pw_below_drewN | apply below_drew1) | exact HB.out)) hb)
       clear HO_6
       clear HR391
       clear HR398
       clear HB
       have HO_6:=n0_
       have HO394:=n1_
       have HR391:=n2_
       have HR398:=n3_
       have HB:=n4_
       clear n0_ n1_ n2_ n3_ n4_
       (try clear hb)
       (try clear ho0)
       refine hK.out _ _ trivial (fun hHeld=>?_)
       clear hK K
       refine norm_ (a':=?_) ?_ ?_
       rotate_left
       ·show Act.put _ (some 96) _ = _
        simp only [Act.put,List.setIfInBounds_toArray,List.set_cons_zero,List.set_cons_succ,i64_w,i32_w]
        rfl
       refine one_ (i:=11) (N:=some 101) #[true,true,true,true,true,true,true,true,true,true,true,true,false,false,false,false] rfl rfl (one_of HT_.out (by kernel_rfl)) (by decide) (fun K hK=>?_)
       refine Kd.R_append_rows_step Kd.string (w0:=w) w.heap.size (by rfl) (.tmp 96) (.tmp 100) 39 9 (.string ⟨#[]⟩) 16 rfl Try.underlying39 info9 rfl (by decide) (by omega) v393 t392 y395 _ _ _ (fun k_=>some k_ ≠ (.slice Ao11 t376.length co11:Value).ownBlock) (fun _=>False) rfl rfl ?aO ?aR (fun _ _ h=>h) (fun _ h=>h.elim) ?aF ?aB ?aS ?aL ?_
       (case aR=>repeat (first | exact (by repeat (first | (with_reducible exact HR398.out) | (with_reducible refine Kd.C_alloc ?_ _) | (with_reducible refine Kd.C_drewN ?_ _) | (with_reducible refine Kd.C_drew ?_) | exact HR398.out)) | (with_reducible refine Kd.C_alloc ?_ _) | (with_reducible refine Kd.C_drewN ?_ _) | (with_reducible refine Kd.C_drew ?_)))
       (case aB=>exact (by repeat (first | (with_reducible first | exact HB.out | apply below_alloc | apply pw_below_drewN | apply below_drew1) | exact HB.out)))
       (case aF=>exact (fun k_ hk=>Kd.fresh' (Kd.R_lt (by (with_reducible repeat (first | apply Kd.R_alloc | apply Kd.R_drewN | apply Kd.R_drew));exact HO_6.out)) k_ hk))
       (case aO=>exact (by (with_reducible repeat (first | apply Kd.R_alloc | apply Kd.R_drewN | apply Kd.R_drew));exact Kd.R_mono HO394.out (fun _ hk=>hk.2)))
       (case aS=>exact (below_size (by repeat (first | (with_reducible first | exact HB.out | apply below_alloc | apply pw_below_drewN | apply below_drew1) | exact HB.out))))
       (case aL=>have:=LMc30.out;omega)
       intro v400 w36 ho hb hg hat
       rw [← Ny399.out] at ho
       have n0_:=Aside0.mk (Kd.R_after (ok:=(fun _=>True)) (by (with_reducible repeat (first | apply Kd.R_alloc | apply Kd.R_drewN | apply Kd.R_drew));exact HO_6.out) hg hat)
       have n1_:=Aside0.mk (hb)
       have n2_:=Aside0.mk ((show Kd.C Kd.string w36 Ao11 y388.length y388 from by rw [Ny388.out];exact Kd.C_take (m:=(x14_3:Int).toNat) ((Kd.R_reads' (Kd.R_after (ok:=(fun _=>True)) (by (with_reducible repeat (first | apply Kd.R_alloc | apply Kd.R_drewN | apply Kd.R_drew));exact HO_6.out) hg hat)).2.2) KL33.out))
       have n3_:=Aside0.mk ((show Kd.C Kd.string w36 A34 y395.length y395 from by rw [Ny395.out,KA34.out];exact Kd.C_drop (m:=((ji27):Int).toNat) (c:=co11) ((Kd.R_reads' (Kd.R_after (ok:=(fun _=>True)) (by (with_reducible repeat (first | apply Kd.R_alloc | apply Kd.R_drewN | apply Kd.R_drew));exact HO_6.out) hg hat)).2.2) KL34.out ((Kd.R_reads' (Kd.R_after (ok:=(fun _=>True)) (by (with_reducible repeat (first | apply Kd.R_alloc | apply Kd.R_drewN | apply Kd.R_drew));exact HO_6.out) hg hat)).2.1)))
       have n4_:=Aside0.mk (ho)
       clear HO_6
       clear HB
       clear HR391
       clear HR398
       clear HO394
       have HO_6:=n0_
       have HB:=n1_
       have HR391:=n2_
       have HR398:=n3_
       have HO401:=n4_
       clear n0_ n1_ n2_ n3_ n4_
       clear ho hb hg hat
       obtain ⟨Ao37,co37,eo37⟩:=Kd.R_slice HO401.out
       (first | subst eo37 | (injection eo37 with f1_ f2_ f3_;have f4_:=f1_.symm;have f5_:=f3_.symm;clear f1_ f2_ f3_;subst f4_;subst f5_))
       refine hK.out _ _ trivial (fun hHeld=>?_)
       clear hK K
       refine norm_ (a':=?_) ?_ ?_
       rotate_left
       ·show Act.put _ (some 101) _ = _
        simp only [Act.put,List.setIfInBounds_toArray,List.set_cons_zero,List.set_cons_succ,i64_w,i32_w]
        rfl
       refine one_ (i:=12) (N:=some 102) #[true,true,true,true,true,true,true,true,true,true,true,true,true,false,false,false] rfl rfl (one_of HT_.out (by kernel_rfl)) (by decide) (fun K hK=>?_)
       refine goes_ Try.func33 (by kernel_rfl) rfl #[.string t375,.slice Ao37 y399.length co37] (by rfl) rfl rfl (by (try simp only [List.map_toArray,List.map_cons,List.map_nil]);first | done | rfl | (simp only [List.length_drop,List.length_take];rfl)) ?_
       with_reducible refine (numnahref01_Covers.calls k3 t375 _ _ y399 t402 _ ?side1 ?side2 A31.out).mono ?_
       (case side1=>repeat (first | exact (Kd.R_reads' HO401.out).2.2 | (with_reducible refine Kd.C_alloc ?_ _) | (with_reducible refine Kd.C_drewN ?_ _) | (with_reducible refine Kd.C_drew ?_)))
       (case side2=>exact (Kd.R_reads' HO401.out).2.1)
       rintro e w' ⟨rfl,⟨nd,rfl⟩⟩
       refine ⟨_,rfl,?_⟩
       refine hK.out _ _ trivial (fun hHeld=>?_)
       clear hK K
       refine norm_ (a':=?_) ?_ ?_
       rotate_left
       ·show Act.put _ (some 102) _ = _
        simp only [Act.put,List.setIfInBounds_toArray,List.set_cons_zero,List.set_cons_succ,i64_w,i32_w]
        rfl
       refine pure_ (i:=13) (N:=some 103) (v:=?_) (a':=?_) #[true,true,true,true,true,true,true,true,true,true,true,true,true,true,false,false] rfl rfl (any_of HT_.out (by kernel_rfl)) (fun _ _ _ h=>h) (Or.inl ⟨by rfl,?_⟩) ?_ ?_
       rotate_left
       ·intro w'
        go_simp
        with_reducible rfl
       rotate_left
       ·simp only [Act.put,List.setIfInBounds_toArray,List.set_cons_zero,List.set_cons_succ,i64_w,i32_w]
        rfl
       refine pure_ (i:=14) (N:=some 104) (v:=?_) (a':=?_) #[true,true,true,true,true,true,true,true,true,true,true,true,true,true,true,false] rfl rfl (any_of HT_.out (by kernel_rfl)) (fun _ _ _ h=>h) (Or.inl ⟨by rfl,?_⟩) ?_ ?_
       rotate_left
       ·intro w'
        go_simp
        with_reducible rfl
       rotate_left
       ·simp only [Act.put,List.setIfInBounds_toArray,List.set_cons_zero,List.set_cons_succ,i64_w,i32_w]
        rfl
       refine pure_ (i:=15) (N:=some 13) (v:=?_) (a':=?_) #[true,true,true,true,true,true,true,true,true,true,true,true,true,true,true,true] rfl rfl (any_of HT_.out (by kernel_rfl)) (fun _ _ _ h=>h) (Or.inl ⟨by rfl,?_⟩) ?_ ?_
       rotate_left
       ·intro w'
        go_simp
        with_reducible rfl
       rotate_left
       ·simp only [Act.put,List.setIfInBounds_toArray,List.set_cons_zero,List.set_cons_succ,i64_w,i32_w]
        rfl
       refine done_ (done_of HT_.out (by kernel_rfl)) ?_
       try go_wp2
       go_roundg k3
       case measure=>have:=HJ7.out;have:=HK2.out;have:=HK3.out;omega
       case rel=>exact ⟨(!t402),(ji27),(by first | rfl | (simp;done) | (simp [*];done)),(by first | rfl | (simp;done) | (simp only [← hji27] <;> (first | rfl | simp)) | (simp [*];done)),H',⟨by have:=HJ7.out;have:=HK2.out;have:=HK3.out;omega⟩,⟨by (with_reducible repeat (first | apply Kd.R_alloc | apply Kd.R_drewN | apply Kd.R_drew));exact Kd.R_mono HO_6.out (fun _ hk=>trivial)⟩,⟨by repeat (first | (with_reducible first | exact HB.out | apply below_alloc | apply pw_below_drewN | apply below_drew1) | exact HB.out)⟩⟩
end Go.Proofs.Ythpahlkhiknofaa.G
set_option linter.unusedSectionVars false
namespace Go.Proofs.Ythpahlkhiknofaa.P
open Go Go.RowKit Go.Proofs.Ythpahlkhiknofaa.M Go.Proofs.Ythpahlkhiknofaa.G Go.Proofs.Ythpahlkhiknofaa.H
open Go.Proofs.YthpahlkhiknofaaW.PrintWords Go.Proofs.YthpahlkhiknofaaW.PrintMore
theorem bindS {α β:Type} {x:Option α} {a:α} (h:x = some a) {g:α → Nat → Option β} {r:β} (e:Ev (g a) r):Ev (fun k=>x.bind fun t=>g t k) r:=by subst h;exact e
def cut8 (c:ByteArray):ByteArray:=c.extract 0 (min c.size 8)
theorem cut8_size (c:ByteArray):(cut8 c).size ≤ 8:=by unfold cut8;rw [ByteArray.size_extract];omega
theorem cut8_id {c:ByteArray} (h:c.size ≤ 8):cut8 c = c:=by
 unfold cut8
 rw [Nat.min_eq_left h]
 exact ByteArray.extract_zero_size
theorem few_l0 (l:List ByteArray):∀ d i,i + d = 34 → i ≤ l.length → Ev (fun k=>numnahlaw01_few.l0 k l ((l.take i).map cut8) (i:Int)) ((l.take 34).map cut8):=by
 intro d
 induction d with
 | zero =>
  intro i hi hil
  obtain rfl:i = 34:=by omega
  refine Ev.step (f:=fun _=>some ((l.take 34).map cut8)) (fun k=>?_) (Ev.now _)
  rw [numnahlaw01_few.l0]
  by_cases h:((34:Nat):Int) < (l.length:Int)
  ·rw [if_pos h,if_neg (by omega)]
  ·rw [if_neg h]
 | succ d ih =>
  intro i hi hil0
  by_cases hil:i < l.length
  ·have hmn:mn (l[i].size:Int) 8 = ((min l[i].size 8:Nat):Int):=by unfold mn;split <;> omega
   have:=ih (i + 1) (by omega) (by omega)
   refine Ev.step (fun k=>?_) this
   rw [numnahlaw01_few.l0,if_pos (by omega),if_pos (by omega),if_pos (by omega),rdS hil,hmn,if_pos (by omega),if_pos (by omega),if_pos (by rw [List.length_map,List.length_take];omega),wrap_succ (by omega),Int.toNat_natCast,List.take_succ_eq_append_getElem hil,List.map_append,List.map_singleton]
   rfl
  ·have e:l.take i = l.take 34:=by rw [List.take_of_length_le (by omega),List.take_of_length_le (by omega)]
   rw [e]
   refine Ev.step (f:=fun _=>some ((l.take 34).map cut8)) (fun k=>?_) (Ev.now _)
   rw [numnahlaw01_few.l0,if_neg (by omega)]
theorem ev_few (l:List ByteArray):Ev (fun k=>numnahlaw01_few.f k l) ((l.take 34).map cut8):=few_l0 l 34 0 (by omega) (by omega)
theorem few_id {l:List ByteArray} (hl:l.length ≤ 34) (h:∀ c ∈ l,c.size ≤ 8):Ev (fun k=>numnahlaw01_few.f k l) l:=by
 have:=ev_few l
 rw [List.take_of_length_le hl] at this
 have e:l.map cut8 = l:=by
  rw [List.map_congr_left (fun c hc=>cut8_id (h c hc)),List.map_id']
 rwa [e] at this
def chkV (c:ByteArray) (l:List ByteArray):Int:=if fnN c ≠ 0 ∧ validB (fnN c) l = true then (if covS c l = true then 0 else 10) else 2
def irrS (c:ByteArray) (l:List ByteArray) (d i:Nat):Bool:=allF (fun i=>!covS c (l.eraseIdx i)) d i
section
variable {c:ByteArray} (hc:c.size ≤ 40) {l:List ByteArray} (hl:l.length ≤ 34) (hs:∀ x ∈ l,x.size ≤ 8)
include hc hl hs
theorem isCn_of (h:validB (fnN c) l = true):∀ x ∈ l,isCn (fnN c) x = true:=by
 unfold validB at h
 rw [Bool.and_eq_true] at h
 exact fun x hx=>List.all_eq_true.1 h.1 x hx
theorem okC_of (h:validB (fnN c) l = true):∀ x ∈ l,okC x = true ∧ x.size ≤ 40:=fun x hx=>by
 have:=isCn_of hc hl hs h x hx
 unfold isCn at this
 rw [Bool.and_eq_true] at this
 have h2:=hs x hx
 exact ⟨this.1,by omega⟩
theorem ev_check:Ev (fun k=>card_Check.f k c l) (chkV c l):=by
 obtain ⟨m,hm,e⟩:=newF hc
 unfold card_Check.f chkV
 by_cases h0:fnN c ≠ 0
 ·have:=hm h0
  subst this
  obtain ⟨_,_,n1,n5,n32⟩:=fnN_pos hc h0
  rw [decide_eq_true h0] at e
  refine bindS e (Ev.congr (fun k=>if_pos rfl) (Ev.bind (ev_cubes n1 n5 c (by omega) (fun x hx=>by have:=hs x hx;omega)) ?_))
  by_cases hv:validB (fnN c) l = true
  ·have hb:fnN c ≠ 0 ∧ validB (fnN c) l = true:=⟨h0,hv⟩
   have hcv:=covB_eq n5 (s:=c) (by omega) (isCn_of hc hl hs hv)
   have hi:card_function_isCover.f (fnN c:Int) c (l.map cubeS) = some (covS c l):=by
    unfold card_function_isCover.f
    rw [if_pos ⟨by unfold fitL;rw [List.length_map];omega,by omega⟩,hcv]
   rw [if_pos hv]
   refine Ev.congr (fun k=>if_pos rfl) (bindS hi ?_)
   by_cases hk:covS c l = true
   ·have ev:(if fnN c ≠ 0 ∧ validB (fnN c) l = true then (if covS c l = true then (0:Int) else 10) else 2) = 0:=by rw [if_pos hb,if_pos hk]
    rw [ev]
    exact Ev.congr (fun k=>if_pos hk) (Ev.now _)
   ·have ev:(if fnN c ≠ 0 ∧ validB (fnN c) l = true then (if covS c l = true then (0:Int) else 10) else 2) = 10:=by rw [if_pos hb,if_neg hk]
    rw [ev]
    exact Ev.congr (fun k=>if_neg hk) (Ev.now _)
  ·have hb:¬ (fnN c ≠ 0 ∧ validB (fnN c) l = true):=fun h=>hv h.2
   have ev:(if fnN c ≠ 0 ∧ validB (fnN c) l = true then (if covS c l = true then (0:Int) else 10) else 2) = 2:=by rw [if_neg hb]
   rw [ev,if_neg hv]
   exact Ev.congr (fun k=>if_neg (show ¬ (false = true) by decide)) (Ev.now _)
 ·rw [decide_eq_false h0] at e
  have hb:¬ (fnN c ≠ 0 ∧ validB (fnN c) l = true):=fun h=>h0 h.1
  have ev:(if fnN c ≠ 0 ∧ validB (fnN c) l = true then (if covS c l = true then (0:Int) else 10) else 2) = 2:=by rw [if_neg hb]
  rw [ev]
  exact bindS e (Ev.congr (fun k=>if_neg (show ¬ (false = true) by decide)) (Ev.now _))
theorem erase_map (l:List ByteArray) (i:Nat):(l.map cubeS).eraseIdx i = (l.eraseIdx i).map cubeS:=by
 rw [List.eraseIdx_eq_take_drop_succ,List.eraseIdx_eq_take_drop_succ,List.map_append,List.map_take,List.map_drop]
theorem irr_eq (h0:fnN c ≠ 0) (hv:validB (fnN c) l = true):irrB c (l.map cubeS) (l.map cubeS).length 0 = irrS c l l.length 0:=by
 obtain ⟨_,_,n1,n5,n32⟩:=fnN_pos hc h0
 unfold irrB irrS
 rw [List.length_map]
 exact allF_congr fun i _ _=>by
  rw [erase_map hc hl hs,covB_eq n5 (by omega) (fun x hx=>isCn_of hc hl hs hv x (List.mem_of_mem_eraseIdx hx))]
theorem ev_irr:Ev (fun k=>card_Irredundant.f k c l) (if chkV c l = 0 then (irrS c l l.length 0,0) else (false,chkV c l)):=by
 unfold card_Irredundant.f
 refine Ev.bind (ev_check hc hl hs) ?_
 by_cases h:chkV c l = 0
 ·have hh:fnN c ≠ 0 ∧ validB (fnN c) l = true:=by
   unfold chkV at h
   by_cases hh:fnN c ≠ 0 ∧ validB (fnN c) l = true
   ·exact hh
   ·rw [if_neg hh] at h;cases h
  obtain ⟨h0,hv⟩:=hh
  obtain ⟨m,hm,e⟩:=newF hc
  have:=hm h0
  subst this
  obtain ⟨_,_,n1,n5,n32⟩:=fnN_pos hc h0
  rw [if_pos h]
  refine Ev.congr (fun k=>if_pos h) (bindS e (Ev.bind (ev_cubes n1 n5 c (by omega) (fun x hx=>by have:=hs x hx;omega)) ?_))
  rw [if_pos hv]
  refine Ev.congr (fun k=>if_pos ⟨rfl,by omega,by show (l.map cubeS).length ≤ 1000;rw [List.length_map];omega⟩) ?_
  rw [show irrB c (l.map cubeS,true).1 (l.map cubeS,true).1.length 0 = irrS c l l.length 0 from irr_eq hc hl hs h0 hv]
  exact Ev.now _
 ·rw [if_neg h]
  exact Ev.congr (fun k=>if_neg h) (Ev.now _)
theorem checks_l1 (h0:fnN c ≠ 0) (hv:validB (fnN c) l = true) (is:Bool):∀ d i (want:Bool),i + d = l.length → is = (want && irrS c l d i) → Ev (fun k=>numnahlaw01_CardChecks.l1 k c l 0 is 0 want (i:Int)) true:=by
 intro d
 induction d with
 | zero =>
  intro i want hi he
  have he':is = want:=by rw [he];exact Bool.and_true _
  subst he'
  refine Ev.step (fun k=>by rw [numnahlaw01_CardChecks.l1,if_neg (by omega)]) (Ev.congr (fun k=>if_pos rfl) (Ev.congr (fun k=>if_pos (by simp)) (Ev.congr (fun k=>if_pos rfl) ev_aw)))
 | succ d ih =>
  intro i want hi he
  have hil:i < l.length:=by omega
  cases want with
  | false =>
   refine Ev.step (fun k=>?_) (ih (i + 1) false (by omega) (by rw [he];rfl))
   rw [numnahlaw01_CardChecks.l1,if_pos (by omega),if_neg (by decide),wrap_succ (by omega)]
  | true =>
   have hmem:∀ x ∈ l.eraseIdx i,x ∈ l:=fun x hx=>List.mem_of_mem_eraseIdx hx
   have hlen:(l.eraseIdx i).length ≤ 1000:=by have:=List.length_eraseIdx_le l i;omega
   have hcv:=ev_rcov (s:=c) (by omega) (l:=l.eraseIdx i) hlen (fun x hx=>okC_of hc hl hs hv x (hmem x hx))
   have hfew:=few_id (l:=l.take i) (by rw [List.length_take];omega) (fun x hx=>hs x (List.mem_of_mem_take hx))
   have hlen2:(l.take i).length + (l.drop (i + 1)).length < 8796093022208:=by rw [List.length_take,List.length_drop];omega
   have h01:(0:Int) ≤ ((i + 1:Nat):Int):=by omega
   have h02:((i + 1:Nat):Int) ≤ (l.length:Int):=by omega
   have e2:l.take i ++ l.drop (i + 1) = l.eraseIdx i:=(List.eraseIdx_eq_take_drop_succ l i).symm
   refine Ev.step (fun k=>by rw [numnahlaw01_CardChecks.l1,if_pos (by omega),if_pos rfl,if_pos (by omega),if_pos (by omega),wrap_succ (by omega),Int.toNat_natCast,Int.toNat_natCast]) (Ev.bind hfew (Ev.congr (fun k=>if_pos h01) (Ev.congr (fun k=>if_pos h02) (Ev.congr (fun k=>Option.bind_some _ _) (Ev.congr (fun k=>if_pos hlen2) ?_)))))
   rw [e2]
   refine Ev.bind hcv (ih (i + 1) _ (by omega) ?_)
   rw [he,Bool.true_and]
   rfl
theorem checks_l0 (w:Int) (is:Bool) (g:Int) {r:Bool} (hr:∀ b,b = (decide (fnN c ≠ 0) && (decide (l.length ≤ 32) && l.all (isCn (fnN c)))) → Ev (fun k=>if b = true then ((numnahref01_Covers.f k c l).bind fun t386=>(if t386 = true then (numnahlaw01_CardChecks.l1 k c l w is g true 0) else (if w = 10 then (if is = true then (some false) else (if g = 10 then ((numnahlaw01_awake.f).bind fun t387=>(some t387)) else (some false))) else (some false)))) else (if w = 2 then (if is = true then (some false) else (if g = 2 then ((numnahlaw01_awake.f).bind fun t385=>(some t385)) else (some false))) else (some false))) r):∀ d i (v:Bool),i + d = l.length → (v && (l.drop i).all (fun x=>okC x && ((x.size:Int) == (fnN c:Int)))) = (decide (fnN c ≠ 0) && (decide (l.length ≤ 32) && l.all (isCn (fnN c)))) → Ev (fun k=>numnahlaw01_CardChecks.l0 k c l w is g (fnN c:Int) v (i:Int)) r:=by
 intro d
 induction d with
 | zero =>
  intro i v hi hv
  rw [List.drop_eq_nil_of_le (by omega),List.all_nil,Bool.and_true] at hv
  refine Ev.step (fun k=>by rw [numnahlaw01_CardChecks.l0,if_neg (by omega)]) (hr v hv)
 | succ d ih =>
  intro i v hi hv
  have hil:i < l.length:=by omega
  have hx:=hs _ (List.getElem_mem hil)
  rw [List.drop_eq_getElem_cons hil,List.all_cons] at hv
  cases v with
  | false =>
   refine Ev.step (fun k=>?_) (ih (i + 1) false (by omega) (by rw [← hv];simp))
   rw [numnahlaw01_CardChecks.l0,if_pos (by omega),if_neg (by decide),wrap_succ (by omega)]
  | true =>
   refine Ev.step (fun k=>by rw [numnahlaw01_CardChecks.l0,if_pos (by omega),if_pos rfl,if_pos (by omega),rdS hil,wrap_succ (by omega)]) (Ev.bind (ev_cube (c:=l[i]) (by omega) (fnN c:Int)) (ih (i + 1) _ (by omega) ?_))
   rw [← hv,Bool.true_and,Bool.and_assoc]
end
theorem checks_pure (a0:ByteArray) (l1:List ByteArray):∃ k,numnahlaw01_CardChecks.f k a0 l1 = some true:=by
 refine Ev.rounds ?_
 unfold numnahlaw01_CardChecks.f
 obtain ⟨c,hc,e0⟩:=short_f a0
 rw [e0]
 simp only [Option.bind_some]
 obtain ⟨l,hle⟩:∃ l,(l1.take 34).map cut8 = l:=⟨_,rfl⟩
 have hf:=ev_few l1
 rw [hle] at hf
 have hl:l.length ≤ 34:=by rw [← hle,List.length_map,List.length_take];omega
 have hs:∀ x ∈ l,x.size ≤ 8:=fun x hx=>by
  rw [← hle] at hx
  obtain ⟨y,_,rfl⟩:=List.mem_map.1 hx
  exact cut8_size y
 refine Ev.bind hf (Ev.bind (ev_check hc hl hs) (Ev.bind (ev_irr hc hl hs) (Ev.bind (ev_vars hc) ?_)))
 have hall:l.all (isCn (fnN c)) = l.all (fun x=>okC x && ((x.size:Int) == (fnN c:Int))):=by
  congr 1
  funext x
  unfold isCn
  congr 1
  rw [Bool.eq_iff_iff,beq_iff_eq,beq_iff_eq]
  exact ⟨fun e=>by rw [e],fun e=>by omega⟩
 have main:∀ v:Bool,v = (decide (fnN c ≠ 0) && decide (l.length ≤ 32)) → Ev (fun k=>numnahlaw01_CardChecks.j0 k c l (chkV c l) (if chkV c l = 0 then (irrS c l l.length 0,(0:Int)) else (false,chkV c l)).1 (if chkV c l = 0 then (irrS c l l.length 0,(0:Int)) else (false,chkV c l)).2 (fnN c:Int) v) true:=by
  intro v hv
  refine Ev.step (fun k=>by rw [numnahlaw01_CardChecks.j0];rfl) (checks_l0 hc hl hs (chkV c l) (if chkV c l = 0 then (irrS c l l.length 0,(0:Int)) else (false,chkV c l)).1 (if chkV c l = 0 then (irrS c l l.length 0,(0:Int)) else (false,chkV c l)).2 (r:=true) (fun b hb=>?_) l.length 0 v (by omega) ?_)
  ·by_cases hg:fnN c ≠ 0 ∧ validB (fnN c) l = true
   ·obtain ⟨h0,hvl⟩:=hg
    have hb':b = true:=by
     unfold validB at hvl
     rw [Bool.and_eq_true] at hvl
     rw [hb,decide_eq_true h0,hvl.1,hvl.2];rfl
    subst hb'
    refine Ev.congr (fun k=>if_pos rfl) (Ev.bind (ev_rcov (by omega) (by omega) (okC_of hc hl hs hvl)) ?_)
    have e:chkV c l = if covS c l = true then 0 else 10:=by unfold chkV;rw [if_pos ⟨h0,hvl⟩]
    by_cases hk:covS c l = true
    ·rw [if_pos hk] at e
     rw [e,if_pos rfl]
     exact Ev.congr (fun k=>if_pos hk) (checks_l1 hc hl hs h0 hvl _ l.length 0 true (by omega) (by rw [Bool.true_and]))
    ·rw [if_neg hk] at e
     rw [e,if_neg (by decide)]
     exact Ev.congr (fun k=>if_neg hk) (Ev.congr (fun k=>if_pos rfl) (Ev.congr (fun k=>if_neg (by decide)) (Ev.congr (fun k=>if_pos rfl) ev_aw)))
   ·have hb':b = false:=by
     rw [hb]
     unfold validB at hg
     by_cases h0:fnN c ≠ 0
     ·rw [decide_eq_true h0,Bool.true_and,Bool.and_comm]
      cases hq:(l.all (isCn (fnN c)) && decide (l.length ≤ 32)) with
      | false=>rfl
      | true=>exact absurd ⟨h0,hq⟩ hg
     ·rw [decide_eq_false h0,Bool.false_and]
    subst hb'
    have e:chkV c l = 2:=by unfold chkV;rw [if_neg hg]
    rw [e,if_neg (by decide)]
    exact Ev.congr (fun k=>if_neg (by decide)) (Ev.congr (fun k=>if_pos rfl) (Ev.congr (fun k=>if_neg (by decide)) (Ev.congr (fun k=>if_pos rfl) ev_aw)))
  ·rw [List.drop_zero,hv,← hall,Bool.and_assoc]
 by_cases h0:fnN c ≠ 0
 ·refine Ev.congr (fun k=>if_pos (by omega)) (main _ ?_)
  rw [decide_eq_true h0,Bool.true_and]
  congr 1
  exact propext ⟨fun h=>by omega,fun h=>by omega⟩
 ·refine Ev.congr (fun k=>if_neg (by omega)) (main false ?_)
  rw [decide_eq_false h0,Bool.false_and]
end Go.Proofs.Ythpahlkhiknofaa.P
