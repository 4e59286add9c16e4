/- The reference's machine: lists of cells and numbers anew; a number added to such a list.; Draws: turns of tasks. -/
import Derived.Test.YtjacjafmimgfcaaGreatWad
import Derived.Test.YtjacjafmimgfcaaGreatWaf
import Derived.Test.YtjacjafmimgfcaaGreatWai
import Derived.Test.YtjacjafmimgfcaaGreatWam
set_option maxHeartbeats 4000000
set_option maxRecDepth 100000
set_option linter.unusedVariables false
set_option linter.unusedSimpArgs false
namespace Go.Proofs.YtjacjafmimgfcaaGreat
open Go.RowKit
theorem infoPut:(Tryz.prog.info? 127).map (fun i=>(i.zero,i.size,i.bytes))=some (some (.agg #[.int .i64 0,.int .i64 0]),2,16):=by kernel_rfl
theorem l11Puts_calls (l:List Put)(A:Option Addr)(c:Nat)(w:World)(S:Nat→Prop)(hr:Row kPut w S A l)(hl:l.length≤1000000) :
  Calls Tryz.prog 142 #[.slice A l.length c] w fun e w'=>∃ v,e=.returned v∧OwnF kPut 127 w' w.heap.size v l∧Below w.heap.size w w':=by
 go_enter Tryz.func142,Tryz.ntmps142
 go_wp2_with (at_builtin;go_must (refine wpList_clone_kd (d:=kPut) rfl (.tmp 3) (.tmp 4) _ rfl Tryz.underlying66 _ 16 infoPut rfl (by decide) (by decide) rfl A c rfl hr (by omega) ?_;intro v w2 ho hb;obtain⟨A1,c1,rfl,hc1⟩:=Own.slice ho))
 go_ret
 exact⟨_,rfl,OwnF.of plain_put ho,hb⟩
theorem spot_none {w:World}{a:Addr}{u:Value}(h:w.cell? a=some u):a.spot=none:=by
 unfold World.cell? at h
 split at h
 ·cases hs:a.spot with
  | none=>rfl
  | some x=>simp [hs] at h
 ·cases h
theorem Row.lit {α:Type}{d:Kd α}{w:World}{S:Nat→Prop}{A:Option Addr}{xs:List α}(h:Row d w S A xs)(hd:0<d.sz)(hn:0<xs.length):∃ b o,A=some ⟨b,o,none⟩∧S b∧b<w.heap.size:=by
 obtain⟨ad,c,rfl,hS,hl,hk,hc⟩:=h.get hn
 have hl0:=d.len hk
 have h0:=hc 0 c[0] (List.getElem?_eq_getElem (by omega))
 rw [Nat.zero_mul,Nat.add_zero] at h0
 have e0:ad.add 0=ad:=by simp [Addr.add]
 rw [e0] at h0
 have hs:=spot_none h0
 obtain⟨b,o,s⟩:=ad
 simp only at hs
 subst hs
 exact⟨b,o,rfl,hS,hl⟩
theorem add_lit (b o n:Nat):(⟨b,o,none⟩:Addr).add n=⟨b,o+n,none⟩:=by
 unfold Addr.add
 split
 ·rename_i h;simp_all
 ·rfl
theorem put_lit {w:World}{S:Nat→Prop}{A:Option Addr}{xs:List Put}{j:Nat}(h:Row kPut w S A xs)(hj:j<xs.length):∃ b o,A=some ⟨b,o,none⟩∧b<w.heap.size∧w.cell? ⟨b,o+j*2,none⟩=some (.int .i64 xs[j].cell)∧w.cell? ⟨b,o+j*2+1,none⟩=some (.int .i64 xs[j].num):=by
 obtain⟨b,o,rfl,_,hl⟩:=h.lit (by decide) (by omega)
 obtain⟨ad,e,_,c0,c1⟩:=at_put h hj
 injection e with e
 subst e
 simp only [add_lit] at c0 c1
 exact⟨b,o,rfl,hl,c0,c1⟩
theorem Row.one_here {α:Type}{d:Kd α}{e:Nat}{w:World}{S:Nat→Prop}{x:α}{cs:List Value}(b:Nat)(h:d.K w S x cs)(hb:b=w.heap.size):Row d (w.alloc (.cells cs.toArray e)) (fun k=>S k∨k=b) (some ⟨b,0,none⟩) [x]:=by subst hb;exact Row.one_ h
section
variable {P:Program}{α:Type}{d:Kd α}{e:Nat}{wr W':World}{base:Nat}{v:Value}{xs:List α}{x:α}{cs:List Value}
theorem push_post (hp:d.plain)(hb:Below wr.heap.size wr W')(HO:OwnF d e wr base v xs){v':Value}{w':World}{o:Obj}{S:Nat→Prop}(h1:Own d e w' base S v' (xs ++ [x]))(h2:(W'.alloc o).grownBy w' v.ownBlock)(h3:v'.ownBlock=v.ownBlock∨v'.ownBlock=some (W'.alloc o).heap.size) :
  ∃ A c,v'=.slice A (xs.length+1) c∧OwnF d e w' base (.slice A (xs.length+1) c) (xs ++ [x])∧Keep (fun k=>v.ownBlock=some k) wr w'∧∀ k,(Value.slice A (xs.length+1) c).ownBlock=some k→v.ownBlock=some k∨wr.heap.size≤k:=by
 obtain⟨A,c,e1,_⟩:=Own.slice h1
 have e2:(xs ++ [x]).length=xs.length+1:=by simp
 rw [e2] at e1
 subst e1
 refine⟨A,c,rfl,OwnF.of hp h1,?_,fun k hk=>?_⟩
 ·exact(Keep.of_belowAll _ (hb.alloc hb.size _)).trans (Keep.of_grown h2 fun k e=>e)
 ·rcases h3 with h3 | h3
  ·exact .inl (h3.symm.trans hk)
  ·rw [h3] at hk;injection hk with hk;right;have:=hb.size;simp at hk;omega
theorem wpList_push (hp:d.plain){ops:Array Oper}{rest:List Oper}{o:Oper}{a:Go.Act}{Q:Exit→Go.Act→World→Prop}(hb:Below wr.heap.size wr W')(HO:OwnF d e wr base v xs)(hbase:base≤wr.heap.size)(hk:∀ w S,d.K w S x cs)(b:Nat)(hbz:W'.heap.size=b)
  (hgd:o.guard=none) (s y:Operand) (t:TypeId) (ho:o.op=.call { callee:=.builtin .append,args:=#[s,y],argTypes:=#[t,t] })
  (ht:P.underlying t=some (.slice e)) (z:Value) (bytes:Nat) (hinfo:(P.info? e).map (fun i=>(i.zero,i.size,i.bytes))=some (some z,d.sz,bytes)) (hz:z.cells.size=d.sz) (hs0:0<d.sz) (hb0:0<bytes)
  (hs:a.eval s=v) (hx:a.eval y=.slice (some ⟨b,0,none⟩) 1 1) (hl:(xs.length+1)*bytes≤140737488355328)
  (h:∀ A c w',OwnF d e w' base (.slice A (xs.length+1) c) (xs ++ [x])→Keep (fun k=>v.ownBlock=some k) wr w'→(∀ k,(Value.slice A (xs.length+1) c).ownBlock=some k→v.ownBlock=some k∨wr.heap.size≤k)→wpList P ops Q rest (a.put o.dst (.slice A (xs.length+1) c)) w') :
  wpList P ops Q (o :: rest) a (W'.alloc (.cells cs.toArray e)):=by
 refine wpList_append_kd hgd s y t ho ht z bytes hinfo hz hs0 hb0 hs (Own.belowAll HO (hb.alloc hb.size _)) _ 1 hx (Row.one_here (S:=fun _=>False) b (hk _ _) hbz.symm) (fun k hk e=>?_) hl (by have:=hb.size;simp;omega) ?_
 ·have:=HO.blk k e.symm
  have:=hb.size
  rcases hk with hk | hk
  ·exact hk
  ·omega
 ·intro v' w' h1 h2 h3
  obtain⟨A,c,rfl,g1,g2,g3⟩:=push_post hp hb HO h1 h2 h3
  exact h A c w' g1 g2 g3
theorem step_push (hp:d.plain){ops:Array Oper}{o:Oper}{a:Go.Act}{K:Go.Act→World→Prop}{Q:Exit→Go.Act→World→Prop}{E:Prop}{W2:World}(hW:W2=W'.alloc (.cells cs.toArray e))(hb:Below wr.heap.size wr W')(HO:OwnF d e wr base v xs)(hbase:base≤wr.heap.size)(hk:∀ w S,d.K w S x cs)(b:Nat)(hbz:W'.heap.size=b)
  (hgd:o.guard=none) (s y:Operand) (t:TypeId) (ho:o.op=.call { callee:=.builtin .append,args:=#[s,y],argTypes:=#[t,t] })
  (ht:P.underlying t=some (.slice e)) (z:Value) (bytes:Nat) (hinfo:(P.info? e).map (fun i=>(i.zero,i.size,i.bytes))=some (some z,d.sz,bytes)) (hz:z.cells.size=d.sz) (hs0:0<d.sz) (hb0:0<bytes)
  (hs:a.eval s=v) (hx:a.eval y=.slice (some ⟨b,0,none⟩) 1 1) (hl:(xs.length+1)*bytes≤140737488355328)
  (h:∀ A c w',OwnF d e w' base (.slice A (xs.length+1) c) (xs ++ [x])→Keep (fun k=>v.ownBlock=some k) wr w'→(∀ k,(Value.slice A (xs.length+1) c).ownBlock=some k→v.ownBlock=some k∨wr.heap.size≤k)→K (a.put o.dst (.slice A (xs.length+1) c)) w') :
  if Region.wanted o (yielded ops a.tmps)=true then Oper.wp P o a W2 K Q else E:=by
 subst hW
 refine step_append_kd hgd s y t ho ht z bytes hinfo hz hs0 hb0 hs (Own.belowAll HO (hb.alloc hb.size _)) _ 1 hx (Row.one_here (S:=fun _=>False) b (hk _ _) hbz.symm) (fun k hk e=>?_) hl (by have:=hb.size;simp;omega) ?_
 ·have:=HO.blk k e.symm
  have:=hb.size
  rcases hk with hk | hk
  ·exact hk
  ·omega
 ·intro v' w' h1 h2 h3
  obtain⟨A,c,rfl,g1,g2,g3⟩:=push_post hp hb HO h1 h2 h3
  exact h A c w' g1 g2 g3
end
def addGo (x:Put):Bool→List Put→List Put
 | d,[]=>if d then [] else [x]
 | d,y :: r=>(if d=false∧x.cell≤y.cell then [x] else []) ++ ((if y.cell≠x.cell then [y] else []) ++ addGo x (d || decide (x.cell≤y.cell)) r)
theorem addGo_done (x:Put):∀ l:List Put,(∀ y ∈ l,x.cell<y.cell)→addGo x true l=l:=by
 intro l
 induction l with
 | nil=>intro _;rfl
 | cons y r ih =>
  intro h
  have hy:=h y (List.mem_cons_self ..)
  rw [addGo,if_neg (by simp),if_pos (by omega),Bool.true_or,ih (fun z hz=>h z (List.mem_cons_of_mem _ hz))]
  rfl
theorem addGo_eq (x:Put):∀ l:List Put,l.Pairwise (fun a b=>a.cell<b.cell)→addGo x false l=addPut l x:=by
 intro l
 induction l with
 | nil=>intro _;rfl
 | cons y r ih =>
  intro h
  obtain⟨h1,h2⟩:=List.pairwise_cons.1 h
  rw [addGo]
  by_cases hc:x.cell≤y.cell
  ·have hr:∀ z ∈ r,x.cell<z.cell:=fun z hz=>by have:=h1 z hz;omega
   rw [if_pos ⟨rfl,hc⟩,Bool.false_or,decide_eq_true hc,addGo_done x r hr]
   unfold addPut
   have e1:r.filter (fun y=>decide (y.cell<x.cell))=[]:=List.filter_eq_nil_iff.2 fun z hz=>by have:=hr z hz;simp;omega
   have e2:r.filter (fun y=>decide (x.cell<y.cell))=r:=List.filter_eq_self.2 fun z hz=>by have:=hr z hz;simpa using this
   rw [List.filter_cons,List.filter_cons,e1,e2]
   by_cases he:y.cell=x.cell
   ·rw [if_neg (by simp [he]),if_neg (by simp [he]),if_neg (by simp [he])];rfl
   ·rw [if_pos (by simp [he]),if_neg (by simp;omega),if_pos (by simp;omega)];rfl
  ·rw [if_neg (by simp [hc]),if_pos (by omega),Bool.false_or,decide_eq_false hc,ih h2]
   unfold addPut
   rw [List.filter_cons,List.filter_cons,if_pos (by simp;omega),if_neg (by simp;omega)]
   rfl
theorem addGo_drop (x:Put)(d:Bool)(l:List Put)(n:Nat)(h:n<l.length):addGo x d (l.drop n)=(if d=false∧x.cell≤l[n].cell then [x] else []) ++ ((if l[n].cell≠x.cell then [l[n]] else []) ++ addGo x (d || decide (x.cell≤l[n].cell)) (l.drop (n+1))):=by
 rw [List.drop_eq_getElem_cons h,addGo]
theorem l11Add_calls (l:List Put)(x:Put)(A:Option Addr)(c:Nat)(w:World)(S:Nat→Prop)(hr:Row kPut w S A l)(hl:l.length≤1000000)(hs:l.Pairwise (fun a b=>a.cell<b.cell)) :
  Calls Tryz.prog 172 #[.slice A l.length c,.agg #[.int .i64 x.cell,.int .i64 x.num]] w fun e w'=>∃ v,e=.returned v∧OwnF kPut 127 w' w.heap.size v (addPut l x)∧Below w.heap.size w w':=by
 have HE:=Lib.hid (addGo_eq x l hs)
 obtain⟨W,HW⟩:∃ W,W=w.alloc (.cells #[.int .i64 x.cell,.int .i64 x.num] 127):=⟨_,rfl⟩
 have hbW:Below w.heap.size w W:=by rw [HW];exact alB w _
 have hzW:W.heap.size=w.heap.size+1:=by rw [HW];simp
 have y0:W.cell? ⟨w.heap.size,0,none⟩=some (.int .i64 x.cell):=by rw [HW];simp [go_sem]
 have y1:W.cell? ⟨w.heap.size,1,none⟩=some (.int .i64 x.num):=by rw [HW];simp [go_sem]
 have HZ:=Lib.hid hzW
 clear hzW
 go_enter Tryz.func172,Tryz.ntmps172
 go_wp2
 rw [← HW]
 clear HW
 go_loopw [5,6,7] (fun v dn i wr=>∃ (n:Nat) (b:Bool) (out:List Put) (Ao:Option Addr) (No co:Nat),n≤l.length∧i=.int .i64 n∧dn=.bool b∧v=.slice Ao No co∧OwnF kPut 127 wr W.heap.size (.slice Ao No co) out∧Hid (out ++ addGo x b (l.drop n)=addGo x false l∧out.length≤2*n)∧Below W.heap.size W wr) (fun _ _ i _=>l.length-(intOf i).toNat)
 case atStart=>exact⟨0,false,[],some ⟨w.heap.size+1,0,none⟩,0,0,Nat.zero_le _,rfl,rfl,rfl,by have h:=ownF_empty kPut plain_put 127 W W.heap.size (Nat.le_refl _);have e:W.heap.size=w.heap.size+1:=HZ.out;rw [e] at h ⊢;exact h,Lib.hid ⟨rfl,by simp⟩,alB W _⟩
 case round =>
  obtain⟨n,b,out,Ao,No,co,hn,rfl,rfl,rfl,hO,HA,hbr⟩:=hrel
  have hbw:Below w.heap.size w wr:=below_then hbW hbW.size hbr
  have hzr:w.heap.size<wr.heap.size:=by have:=hbr.size;have:=HZ.out;omega
  have z0:=(hbr.cell (p:=⟨w.heap.size,0,none⟩) (by rw [HZ.out];simp)).trans y0
  have z1:=(hbr.cell (p:=⟨w.heap.size,1,none⟩) (by rw [HZ.out];simp)).trans y1
  by_cases hlt:n<l.length
  ·obtain⟨bl,ol,e0,hll0,C0,C1⟩:=put_lit hr hlt
   subst e0
   have HG:Hid (∀ W',Below W.heap.size W W'→W'.cell? ⟨bl,ol+n*2,none⟩=some (.int .i64 l[n].cell)∧W'.cell? ⟨bl,ol+n*2+1,none⟩=some (.int .i64 l[n].num)∧W'.cell? ⟨w.heap.size,0,none⟩=some (.int .i64 x.cell)∧W'.cell? ⟨w.heap.size,1,none⟩=some (.int .i64 x.num)):=Lib.hid fun W' h=>by
    have h2:=below_then hbW hbW.size h
    exact⟨(h2.cell (p:=⟨bl,_,none⟩) hll0).trans C0,(h2.cell (p:=⟨bl,_,none⟩) hll0).trans C1,(h.cell (p:=⟨w.heap.size,0,none⟩) (by rw [HZ.out];simp)).trans y0,(h.cell (p:=⟨w.heap.size,1,none⟩) (by rw [HZ.out];simp)).trans y1⟩
   obtain⟨c0,c1,z0,z1⟩:=HG.out wr hbr
   clear C0 C1
   have x1:(n:Int)<l.length:=by omega
   have x3:(0:Int)≤n:=by omega
   have HD:=Lib.hid (addGo_drop x b l n hlt)
   have HL:=Lib.hid HA.out.2
   have hol:=HA.out.2
   have hdr:=fun q=>below_drewN' (Below.refl wr.heap.size wr) q
   have hbz:=hbr.size
   cases b with
   | false =>
    by_cases e1:x.cell≤l[n].cell
    ·have a1:decide (l[n].cell ≥ x.cell)=true:=by simpa using e1
     by_cases e2:l[n].cell=x.cell
     ·have a2:(l[n].cell != x.cell)=false:=by simp [e2]
      have HX:=Lib.hid (And.intro e1 e2)
      clear e1 e2
      go_wp2
      go_quiet (fail)
      go_wp2_with (at_builtin;go_must (refine wpList_push (d:=kPut) (x:=x) (wr:=wr) plain_put (hdr _) hO hbz (fun _ _=>rfl) wr.heap.size rfl rfl (.tmp 27) (.tmp 29) _ rfl Tryz.underlying66 _ 16 infoPut rfl (by decide) (by decide) rfl rfl (by first | omega | (simp;omega)) ?_;intro A1 c1 w1 ho1 hk1 hn1;have hbr1:=(hbr).trans (hk1.below (fun k hk e=>by have:=(OwnF.blk hO k e).1;omega) hbz);obtain⟨d0,d1,z0,z1⟩:=HG.out w1 hbr1;have hdr1:=fun q=>below_drewN' (Below.refl w1.heap.size w1) q;have hbz1:=hbr1.size))
      go_quiet (fail)
      go_wp2
      go_roundw
      case rel=>exact⟨n+1,true,out ++ [x],_,_,_,by omega,by go_num,rfl,rfl,by first | exact ho1 | exact Own.drewN ho1 _,Lib.hid ⟨by have:=HA.out.1;rw [HD.out,if_pos (by first | exact⟨rfl,HX.out.1⟩ | exact⟨trivial,HX.out.1⟩),if_neg (by simp [HX.out.2]),decide_eq_true HX.out.1] at this;rw [← this];simp,by have:=HL.out;simp;omega⟩,by first | exact hbr1 | exact below_drewN' hbr1 _⟩
      case measure=>simp [intOf];omega
     ·have a2:(l[n].cell != x.cell)=true:=bne_iff_ne.2 e2
      have HX:=Lib.hid (And.intro e1 e2)
      clear e1 e2
      go_wp2
      go_quiet (fail)
      go_wp2_with (at_builtin;go_must (refine wpList_push (d:=kPut) (x:=x) (wr:=wr) plain_put (hdr _) hO hbz (fun _ _=>rfl) wr.heap.size rfl rfl (.tmp 27) (.tmp 29) _ rfl Tryz.underlying66 _ 16 infoPut rfl (by decide) (by decide) rfl rfl (by first | omega | (simp;omega)) ?_;intro A1 c1 w1 ho1 hk1 hn1;have hbr1:=(hbr).trans (hk1.below (fun k hk e=>by have:=(OwnF.blk hO k e).1;omega) hbz);obtain⟨d0,d1,z0,z1⟩:=HG.out w1 hbr1;have hdr1:=fun q=>below_drewN' (Below.refl w1.heap.size w1) q;have hbz1:=hbr1.size))
      go_quiet (fail)
      go_wp2_with (at_builtin;go_must (refine wpList_push (d:=kPut) (x:=l[n]) (wr:=w1) plain_put (hdr1 _) ho1 hbz1 (fun _ _=>rfl) w1.heap.size rfl rfl (.tmp 39) (.tmp 44) _ rfl Tryz.underlying66 _ 16 infoPut rfl (by decide) (by decide) rfl rfl (by first | omega | (simp;omega)) ?_;intro A2 c2 w2 ho2 hk2 hn2;have hbr2:=(hbr1).trans (hk2.below (fun k hk e=>by have:=(OwnF.blk ho1 k e).1;omega) hbz1);obtain⟨d0,d1,z0,z1⟩:=HG.out w2 hbr2;have hdr2:=fun q=>below_drewN' (Below.refl w2.heap.size w2) q;have hbz2:=hbr2.size))
      go_roundw
      case rel=>exact⟨n+1,true,out ++ [x] ++ [l[n]],_,_,_,by omega,by go_num,rfl,rfl,by have h:=ho2;rw [List.length_append] at h;exact h,Lib.hid ⟨by have:=HA.out.1;rw [HD.out,if_pos (by first | exact⟨rfl,HX.out.1⟩ | exact⟨trivial,HX.out.1⟩),if_pos HX.out.2,decide_eq_true HX.out.1] at this;rw [← this];simp,by have:=HL.out;simp;omega⟩,by first | exact hbr2 | exact below_drewN' hbr2 _⟩
      case measure=>simp [intOf];omega
    ·have a1:decide (l[n].cell ≥ x.cell)=false:=by simpa using e1
     have e2:¬ l[n].cell=x.cell:=fun e=>e1 (by omega)
     have a2:(l[n].cell != x.cell)=true:=bne_iff_ne.2 e2
     have HX:=Lib.hid (And.intro e1 e2)
     clear e1 e2
     go_wp2
     go_quiet (fail)
     go_wp2
     go_quiet (fail)
     go_wp2_with (at_builtin;go_must (refine wpList_push (d:=kPut) (x:=l[n]) (wr:=wr) plain_put (hdr _) hO hbz (fun _ _=>rfl) wr.heap.size rfl rfl (.tmp 39) (.tmp 44) _ rfl Tryz.underlying66 _ 16 infoPut rfl (by decide) (by decide) rfl rfl (by first | omega | (simp;omega)) ?_;intro A1 c1 w1 ho1 hk1 hn1;have hbr1:=(hbr).trans (hk1.below (fun k hk e=>by have:=(OwnF.blk hO k e).1;omega) hbz);obtain⟨d0,d1,z0,z1⟩:=HG.out w1 hbr1;have hdr1:=fun q=>below_drewN' (Below.refl w1.heap.size w1) q;have hbz1:=hbr1.size))
     go_roundw
     case rel=>exact⟨n+1,false,out ++ [l[n]],_,_,_,by omega,by go_num,rfl,rfl,by first | exact ho1 | exact Own.drewN ho1 _,Lib.hid ⟨by have:=HA.out.1;rw [HD.out,if_neg (fun h=>by have:=HX.out.1;have:=h.2;omega),if_pos HX.out.2,decide_eq_false (by have:=HX.out.1;omega)] at this;rw [← this];simp,by have:=HL.out;simp;omega⟩,by first | exact hbr1 | exact below_drewN' hbr1 _⟩
     case measure=>simp [intOf];omega
   | true =>
    by_cases e2:l[n].cell=x.cell
    ·have a2:(l[n].cell != x.cell)=false:=by simp [e2]
     have HX:=Lib.hid e2
     clear e2
     go_wp2
     go_quiet (fail)
     go_wp2
     go_quiet (fail)
     go_wp2
     go_roundw
     case rel=>exact⟨n+1,true,out,_,_,_,by omega,by go_num,rfl,rfl,by first | exact hO | exact Own.drewN hO _,Lib.hid ⟨by have:=HA.out.1;rw [HD.out,if_neg (by simp),if_neg (by simp [HX.out]),Bool.true_or] at this;rw [← this];simp,by have:=HL.out;simp;omega⟩,by first | exact hbr | exact below_drewN' hbr _⟩
     case measure=>simp [intOf];omega
    ·have a2:(l[n].cell != x.cell)=true:=bne_iff_ne.2 e2
     have HX:=Lib.hid e2
     clear e2
     go_wp2
     go_quiet (fail)
     go_wp2
     go_quiet (fail)
     go_wp2_with (at_builtin;go_must (refine wpList_push (d:=kPut) (x:=l[n]) (wr:=wr) plain_put (hdr _) hO hbz (fun _ _=>rfl) wr.heap.size rfl rfl (.tmp 39) (.tmp 44) _ rfl Tryz.underlying66 _ 16 infoPut rfl (by decide) (by decide) rfl rfl (by first | omega | (simp;omega)) ?_;intro A1 c1 w1 ho1 hk1 hn1;have hbr1:=(hbr).trans (hk1.below (fun k hk e=>by have:=(OwnF.blk hO k e).1;omega) hbz);obtain⟨d0,d1,z0,z1⟩:=HG.out w1 hbr1;have hdr1:=fun q=>below_drewN' (Below.refl w1.heap.size w1) q;have hbz1:=hbr1.size))
     go_roundw
     case rel=>exact⟨n+1,true,out ++ [l[n]],_,_,_,by omega,by go_num,rfl,rfl,by first | exact ho1 | exact Own.drewN ho1 _,Lib.hid ⟨by have:=HA.out.1;rw [HD.out,if_neg (by simp),if_pos HX.out,Bool.true_or] at this;rw [← this];simp,by have:=HL.out;simp;omega⟩,by first | exact hbr1 | exact below_drewN' hbr1 _⟩
     case measure=>simp [intOf];omega
  ·have hend:addGo x b (l.drop n)=if b then [] else [x]:=by rw [List.drop_of_length_le (by omega)];rfl
   have HN:=Lib.hid hend
   have HL:=Lib.hid HA.out.2
   have hol:=HA.out.2
   have hbz:=hbr.size
   clear hend
   cases b with
   | false =>
    have hdr:=Below.refl wr.heap.size wr
    go_wp2_with (at_builtin;go_must (refine wpList_push (d:=kPut) (x:=x) (wr:=wr) plain_put hdr hO hbz (fun _ _=>rfl) wr.heap.size rfl rfl (.tmp 48) (.tmp 50) _ rfl Tryz.underlying66 _ 16 infoPut rfl (by decide) (by decide) rfl rfl (by omega) ?_;intro A1 c1 w1 ho1 hk1 hn1))
    go_ret
    exact⟨_,rfl,by have:=HA.out.1;rw [HN.out,HE.out] at this;rw [← this];exact ho1.lower (by have:=HZ.out;omega),below_then hbW hbW.size (hbr.trans (hk1.below (fun k hk e=>by have:=(OwnF.blk hO k e).1;omega) hbz))⟩
   | true =>
    go_wp2
    go_ret
    exact⟨_,rfl,by have:=HA.out.1;rw [HN.out,HE.out] at this;simp at this;rw [← this];exact hO.lower (by have:=HZ.out;omega),below_then hbW hbW.size hbr⟩
end Go.Proofs.YtjacjafmimgfcaaGreat
namespace Go.Proofs.YtjacjafmimgfcaaGreat
open Go.RowKit
attribute [local go_sem ↓] Go.wp_at_zero Go.wp_at_succ
def sliceN:Value→Nat
 | .slice _ n _=>n
 | _=>0
theorem l71Turns_calls (most:Nat)(hm:most≤200)(w:World)(g:Nat)(S:Nat→Prop)(A:Option Addr)(c:Nat)(bs:List Int)(f:Nat)(hR:RdAt w g S A c bs (f+3*most)) :
  Calls Tryz.prog 102 #[.pointer (some ⟨g,0,none⟩),.int .i64 most] w (Drew (newRow Kd.int 300 w.heap.size) w g S A c bs f):=by
 have hgl:=hR.lt
 obtain⟨wo,rfl⟩:∃ wo,wo=w:=⟨_,rfl⟩
 have hR0:=Lib.hid (hR.below (w':=wo.alloc (.cells #[] 3)) (bal (Below.refl _ _) _))
 have hO0:OwnF Kd.int 3 (wo.alloc (.cells #[] 3)) wo.heap.size (.slice (some ⟨wo.heap.size,0,none⟩) 0 0) []:=OwnF.of plain_int (Own.empty_ Kd.int 3 wo wo.heap.size (fun _=>True) (Nat.le_refl _) trivial)
 have hk0:Keep (fun k=>k=g) wo (wo.alloc (.cells #[] 3)):=(Keep.refl _ _).alloc _
 clear hR
 go_enter Tryz.func102,Tryz.ntmps102
 go_wp2
 go_loopw [5,6,7] (fun v _ _ wr=>∃ out:List Int,OwnF Kd.int 3 wr wo.heap.size v out∧out.length≤most+5∧RdAt wr g S A c bs (f+3*(most-out.length))∧Keep (fun k=>k=g) wo wr) (fun v _ _ _=>most-sliceN v)
 case atStart=>exact⟨[],hO0,by simp,hR0.out,hk0⟩
 case round =>
  clear hO0 hk0 hR0
  obtain⟨out,hO,hlo,hRr,hkr⟩:=hrel
  obtain⟨D,cd,rfl,hcd,hrow⟩:=hO.row
  by_cases hlt:out.length<most
  ·obtain⟨F,hF⟩:∃ F,F=f+3*(most-(out.length+1)):=⟨_,rfl⟩
   have hRs:=Lib.hid (hRr.less (f':=F+2+1) (by omega))
   have hlt':(out.length:Int)<most:=by omega
   have HM:=Lib.hid (And.intro hF (And.intro hlt hlo))
   have HO:=Lib.hid hO
   have HKR:=Lib.hid hkr
   clear hF hRr hlo hlt hO hkr hrow
   obtain⟨wi,rfl⟩:∃ w0:World,w0=wr:=⟨_,rfl⟩
   have tok1:True:=trivial
   have tok2:True:=trivial
   go_wp2_with (first | (go_at_call 64;have _t:=tok1;refine(pick_calls _ _ _ _ _ _ _ (F+2) hRs.out (by omega)).mono ?_;rintro e w1 ⟨x,rfl,hx0,hx1,hR1,hk1⟩;have hR1:=Lib.hid hR1;have HK1:=Lib.hid (HKR.out.trans hk1);have HO1:=Lib.hid (HO.out.keep hk1 (fun k e h=>by have:=(HO.out.blk k e).1;omega));clear tok1 hk1) | (go_at_call 64;have _t:=tok2;refine(pick_calls _ _ _ _ _ _ _ (F+1) hR1.out (by omega)).mono ?_;rintro e w2 ⟨q,rfl,hq0,hq1,hR2,hk2⟩;have hR2:=Lib.hid hR2;have HK2:=Lib.hid (HK1.out.trans hk2);have HO2:=Lib.hid (HO1.out.keep hk2 (fun k e h=>by have:=(HO1.out.blk k e).1;omega));clear tok2 hk2))
   obtain⟨q,rfl⟩:=Int.eq_ofNat_of_zero_le hq0
   have hq5:q<5:=by omega
   have hxi:i64 x:=by unfold i64;omega
   clear hq0 hq1 hx0 hx1
   go_loopw [5,7] (fun v n wr=>∃ (o2:List Int) (j:Nat),n=.int .i64 j∧OwnF Kd.int 3 wr wo.heap.size v o2∧o2.length+j=out.length+1+q∧RdAt wr g S A c bs (F+1)∧Keep (fun k=>k=g) wo wr) (fun _ n _=>(intOf n).toNat)
   case atStart=>exact⟨out,1+q,by go_num,HO2.out,by omega,hR2.out,HK2.out⟩
   case round =>
    obtain⟨o2,j,rfl,hO2,hl2,hR3,hk3⟩:=hrel
    obtain⟨D2,cd2,rfl,hcd2,hrow2⟩:=hO2.row
    clear HO2 HK2 hR2 HO1 HK1 hR1 HO HKR hRs
    have hz3:=hk3.size
    by_cases hj:0<j
    ·obtain⟨j,rfl⟩:∃ i,j=i+1:=⟨j-1,by omega⟩
     have HH:=Lib.hid (And.intro hR3 (And.intro hk3 (And.intro hl2 hq5)))
     clear hR3 hk3 hl2 hj hrow2 hcd2 hq5
     go_wp2_with (at_builtin;refine wpList_push (d:=Kd.int) (xs:=o2) (x:=x) (cs:=[.int .i64 x]) plain_int (Below.refl _ _) hO2 (by omega) (fun _ _=>⟨rfl,hxi⟩) wr.heap.size rfl rfl (.tmp 22) (.tmp 24) _ rfl Tryz.underlying22 _ 8 infoInt rfl (by decide) (by decide) rfl rfl (by have:=HH.out.2.2.1;have:=HH.out.2.2.2;have:=HM.out.2.1;omega) ?_;intro A5 c5 w5 ho5 hk5 hn5)
     obtain⟨h3,k3,l2,q5⟩:=HH.out
     have hjb:(j:Int)≤1000:=by have:=HM.out.2.1;omega
     have hwj:wrap64 (j:Int)=j:=by unfold wrap64;omega
     rw [hwj]
     refine⟨⟨o2 ++ [x],j,rfl,ho5,by simp;omega,h3.keep hk5 (fun e=>by have:=(hO2.blk _ e).1;omega) (fun k hs _ e=>by have:=(hO2.blk _ e).1;have:=h3.ne k hs;omega),k3.then_ hk5 (fun i hi e=>by have:=(hO2.blk _ e).1;omega)⟩,by simp [intOf]⟩
    ·obtain rfl:j=0:=by omega
     have hR3':=Lib.hid hR3
     have HK3:=Lib.hid hk3
     have HL2:=Lib.hid hl2
     clear hR3 hk3 hl2
     go_wp2_with (go_at_call 64;refine(pick_calls _ _ _ _ _ _ _ F hR3'.out (by omega)).mono ?_;rintro e w3 ⟨y,rfl,hy0,hy1,hR4,hk4⟩;have hR4:=Lib.hid hR4;have HK4:=Lib.hid (HK3.out.trans hk4);have HO4:=Lib.hid (hO2.keep hk4 (fun k e h=>by have:=(hO2.blk k e).1;omega));clear hk4)
     ·go_ret
      obtain⟨A9,c9,e9,hc9,hr9⟩:=HO4.out.row
      injection e9 with e9 _ e9c
      subst e9;subst e9c
      exact⟨_,rfl,⟨o2,_,_,rfl,hc9,by have:=HL2.out;have:=HM.out.2.1;omega,hr9.mono fun k hk=>(HO4.out.blk k hk).1⟩,hR4.out.less (by have:=HM.out.1;omega),HK4.out⟩
     ·exact⟨⟨o2,HO4.out,by have:=HL2.out;have:=HM.out.2.1;omega,hR4.out.less (by have:=HM.out.1;have:=HL2.out;omega),HK4.out⟩,by have:=HL2.out;have:=HM.out.2.1;simp [sliceN];omega⟩
  ·have HH:=Lib.hid (And.intro hrow (And.intro hRr (And.intro hkr hO)))
   have hge:most≤out.length:=by omega
   have hge':¬ ((out.length:Int)<most):=by omega
   have HL:=Lib.hid hlo
   clear hrow hRr hkr hO hlo hlt
   go_wp2
   go_ret
   obtain⟨h1,h2,h3,h4⟩:=HH.out
   have e:(out.take most).length=most:=by rw [List.length_take];omega
   exact⟨_,rfl,⟨out.take most,D,cd,by rw [e];rfl,by rw [e];omega,by rw [e];omega,(h1.take most).mono fun k hk=>(h4.blk k hk).1⟩,h2.less (by omega),h3⟩
end Go.Proofs.YtjacjafmimgfcaaGreat
