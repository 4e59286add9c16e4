/- The reference: changes in the order of their times. -/
import Derived.Test.YtjacjafmimgfcaaGreatWap
import Derived.Test.YtjacjafmimgfcaaGreatWbl
import Derived.Test.YtjacjafmimgfcaaGreatWbr
set_option linter.unusedVariables false
set_option linter.unusedSimpArgs false
namespace Go.Proofs.YtjacjafmimgfcaaGreat
open Go.RowKit
attribute [local go_sem ↓] Go.wp_at_zero Go.wp_at_succ
abbrev OwnE (w:World) (B:Nat) (v:Value) (xs:List Entry):Prop:=Own kEntry 68 w B (fun k=>B≤k) v xs
theorem step_clone_n {P:Program}{α:Type}{d:Kd α}{e:Nat}(w1:World){W':World}(hW:W'=w1.alloc (.cells #[] e)){S:Nat→Prop}{ys:List α}{n:Nat}(hn:ys.length=n){ops:Array Oper}{o:Oper}{a:Go.Act}{K:Go.Act→World→Prop}{Q:Exit→Go.Act→World→Prop}{E:Prop}(hgd:o.guard=none)(s x:Operand)(t:TypeId)(ho:o.op=.call { callee:=.builtin .append,args:=#[s,x],argTypes:=#[t,t] })
  (ht:P.underlying t=some (.slice e)) (z:Value) (bytes:Nat) (hinfo:(P.info? e).map (fun i=>(i.zero,i.size,i.bytes))=some (some z,d.sz,bytes)) (hz:z.cells.size=d.sz) (hs0:0<d.sz) (hb0:0<bytes)
  (hs:a.eval s=.slice (some ⟨w1.heap.size,0,none⟩) 0 0) (A:Option Addr) (c:Nat) (hx:a.eval x=.slice A n c) (HR:Row d w1 S A ys) (hl:n*bytes≤140737488355328)
  (h:∀ v' w',Own d e w' w1.heap.size (fun k=>S k∨w1.heap.size≤k) v' ys→Below w1.heap.size w1 w'→K (a.put o.dst v') w'):if Region.wanted o (yielded ops a.tmps)=true then Oper.wp P o a W' K Q else E:=by
 subst hn
 exact step_clone_kd w1 hW hgd s x t ho ht z bytes hinfo hz hs0 hb0 hs A c hx HR hl h
theorem wpList_append_n {P:Program}{α:Type}{d:Kd α}{e:Nat}{base:Nat}{w:World}{S S2:Nat→Prop}{v:Value}{xs ys:List α}{n:Nat}(hn:ys.length=n){ops:Array Oper}{rest:List Oper}{o:Oper}{a:Go.Act}{Q:Exit→Go.Act→World→Prop}(hgd:o.guard=none)(s x:Operand)(t:TypeId)(ho:o.op=.call { callee:=.builtin .append,args:=#[s,x],argTypes:=#[t,t] })
  (ht:P.underlying t=some (.slice e)) (z:Value) (bytes:Nat) (hinfo:(P.info? e).map (fun i=>(i.zero,i.size,i.bytes))=some (some z,d.sz,bytes)) (hz:z.cells.size=d.sz) (hs0:0<d.sz) (hb0:0<bytes)
  (hs:a.eval s=v) (HO:Own d e w base S v xs) (A:Option Addr) (c:Nat) (hx:a.eval x=.slice A n c) (HR:Row d w S2 A ys) (hne:∀ k,S2 k→some k≠v.ownBlock) (hl:(xs.length+n)*bytes≤140737488355328) (hbase:base≤w.heap.size)
  (h:∀ v' w',Own d e w' base (fun k=>S k∨S2 k∨k=w.heap.size) v' (xs ++ ys)→w.grownBy w' v.ownBlock→(v'.ownBlock=v.ownBlock∨v'.ownBlock=some w.heap.size)→wpList P ops Q rest (a.put o.dst v') w'):wpList P ops Q (o :: rest) a w:=by
 subst hn
 exact wpList_append_kd hgd s x t ho ht z bytes hinfo hz hs0 hb0 hs HO A c hx HR hne hl hbase h
theorem drop_if {w:World}{S:Nat→Prop}{g c K:Nat}{xs:List Entry}(h:Row kEntry w S (some ⟨g,0,none⟩) xs)(hc:xs.length≤c):Row kEntry w S (if c=K then some ⟨g,0,none⟩ else some ⟨g,K*6,none⟩) (xs.drop K):=by
 have hm:=h.1
 split
 ·rename_i e
  rw [List.drop_eq_nil_of_le (by omega)]
  exact⟨by simp,fun h=>absurd rfl h⟩
 ·have:=Row.drop h K
  rw [litAdd,Nat.zero_add] at this
  exact this
theorem ord_end {w w5 w6 w7 w8 w9:World}{o:Obj}{S6 S8 S9:Nat→Prop}{v6 v8 v9:Value}{out:List Entry}{E:Entry}{K:Nat}(hw5:Below w.heap.size w w5)(HO6:Own kEntry 68 w6 w5.drew.heap.size S6 v6 (out.take K))(HB6:Below w5.heap.size w5 w6)(HB7:Below w6.heap.size w6 w7)
  (hk8:Keep (fun k=>v6.ownBlock=some k) (w7.alloc o) w8) (ho8:Own kEntry 68 w8 w5.drew.heap.size S8 v8 (out.take K ++ [E])) (hg9:w8.grownBy w9 v8.ownBlock) (ho9:Own kEntry 68 w9 w5.drew.heap.size S9 v9 ((out.take K ++ [E]) ++ out.drop K)) (hS9:∀ k,S9 k→w.heap.size≤k) (hK:K≤out.length) (hsc:scanAt E out out.length=K) :
  ∃ g c,v9=.slice (some ⟨g,0,none⟩) (out.length+1) c∧OwnE w9 w.heap.size v9 (ordIn out E)∧Below w.heap.size w w9:=by
 have z5:=hw5.size
 have z6:=HB6.size
 have z7:=HB7.size
 have z8:=hk8.size
 simp at z8
 have e:(out.take K ++ [E]) ++ out.drop K=ordIn out E:=by unfold ordIn;rw [hsc];simp
 rw [e] at ho9
 obtain⟨g,c,ev,_⟩:=Own.place ho9 (by rw [ordIn_len];omega)
 rw [ordIn_len] at ev
 have hw7:Below w.heap.size w w7:=belowTwo (belowTwo hw5 hw5.size (Nat.le_refl _) HB6) (by omega) (Nat.le_refl _) HB7
 have hw8:Below w.heap.size w w8:=belowTwo (hw7.alloc hw7.size o) (Nat.le_refl _) (Nat.le_refl _) (hk8.below (B:=w.heap.size) (fun k h1 h2=>by have h9:w5.heap.size≤k:=(Own.blk HO6 k h2).1;omega) (by simp;omega))
 have hk9:=Keep.of_grown (T:=fun k=>v8.ownBlock=some k) hg9 (fun k e=>e)
 exact⟨g,c,ev,Own.lower (base':=w.heap.size) (show w.heap.size≤w5.drew.heap.size from z5) (ho9.mono hS9),belowTwo hw8 (Nat.le_refl _) (Nat.le_refl _) (hk9.below (B:=w.heap.size) (fun k h1 h2=>by have h9:w5.heap.size≤k:=(Own.blk ho8 k h2).1;omega) (by omega))⟩
theorem entry_K {w:World}{S:Nat→Prop}{x:Entry}{D U:Option Addr}{cd cu:Nat}(h:EntryRows w S x D U cd cu):kEntry.K w S x (encEntry x (.slice D x.reads.length cd) (.slice U x.puts.length cu)):=⟨_,_,rfl,⟨D,cd,rfl,h.ld,h.d⟩,⟨U,cu,rfl,h.lu,h.u⟩⟩
set_option maxHeartbeats 4000000 in
set_option maxRecDepth 100000 in
theorem logOrder_calls (l:List Entry)(L:Option Addr)(cl:Nat)(w:World)(S:Nat→Prop)(hL:Row kEntry w S L l)(hSS:∀ k,S k→k<w.heap.size)(hll:l.length≤1000000)(hp:∀ e ∈ l,e.reads.length≤1000000∧e.puts.length≤1000000) :
  Calls Tryz.prog 63 #[.slice L l.length cl] w fun e w'=>∃ g c,e=.returned (.slice (some ⟨g,0,none⟩) l.length c)∧OwnE w' w.heap.size (.slice (some ⟨g,0,none⟩) l.length c) (logOrder l)∧Below w.heap.size w w':=by
 have hO0:OwnE (w.alloc (.cells #[] 68)) w.heap.size (.slice (some ⟨w.heap.size,0,none⟩) 0 0) []:=Own.empty_ _ _ _ _ _ (Nat.le_refl _) (Nat.le_refl _)
 have HL:=Lib.hid hL
 have HP:=Lib.hid hp
 clear hL hp
 go_enter Tryz.func63,Tryz.ntmps63
 go_wp2
 go_loopw [3,4,5,6] (fun v i x5 x6 wr=>∃ (n g c:Nat),n≤l.length∧i=.int .i64 n∧v=.slice (some ⟨g,0,none⟩) n c∧OwnE wr w.heap.size v (logOrder (l.take n))∧Below w.heap.size w wr) (fun v i x5 x6 _=>l.length-(intOf i).toNat)
 case atStart=>exact⟨0,_,0,Nat.zero_le _,rfl,rfl,hO0,alB w _⟩
 case round =>
  clear hO0
  obtain⟨n,gA,c,hnl,rfl,rfl,hO,hb⟩:=hrel
  obtain⟨A',c',e',hc,hr⟩:=Own.row hO
  injection e' with e1' e2' e3'
  subst e1';subst e3';clear e2'
  have hz:=hb.size
  by_cases hlt:n<l.length
  ·have hlt':(n:Int)<l.length:=by omega
   have hn0:(0:Int)≤n:=by omega
   obtain⟨be,oe,Ad,Au,cd,cu,eL,hbe,hSe,hrow,hat⟩:=litEntry (HL.out.belowAll hb) hlt
   subst eL
   have e0:=hat.c0
   have e1:=hat.c1
   have e2:=hat.c2
   have e3:=hat.c3
   have e4:=hat.c4
   have e5:=hat.c5
   dsimp only at e1 e2 e3 e4 e5
   obtain⟨E,hE⟩:∃ E,E=l[n]:=⟨_,rfl⟩
   have hEp:E.reads.length≤1000000∧E.puts.length≤1000000:=by rw [hE];exact HP.out _ (List.getElem_mem hlt)
   rw [← hE] at e0 e1 e2 e3 e4 e5 hrow hat
   have HE:=Lib.hid hE
   have HROW:=Lib.hid hrow
   obtain⟨out,hout⟩:∃ out,out=logOrder (l.take n):=⟨_,rfl⟩
   have hol:out.length=n:=by rw [hout,logOrder_len];simp;omega
   rw [← hout] at hO hc hr
   have HO:=Lib.hid (And.intro hO (And.intro hr (And.intro hc hb)))
   have HOUT:=Lib.hid hout
   have HAT:=Lib.hid hat
   clear hat hE hrow hO hr hc hb hout
   obtain⟨wo,rfl⟩:∃ w0:World,w0=wr:=⟨_,rfl⟩
   have HOL:=Lib.hid hol
   clear hol
   go_wp2_with fail
   have HSC:=Lib.hid (show scanAt E out out.length=scanAt E out out.length from rfl)
   go_loopw [5] (fun at_ wr=>∃ k:Nat,at_=.int .i64 k∧k≤n∧scanAt E out out.length=scanAt E out k∧Below wo.heap.size wo wr) (fun at_ _=>(intOf at_).toNat)
   case atStart=>exact⟨n,rfl,Nat.le_refl _,by rw [HOL.out],Below.refl _ _⟩
   case round =>
    clear HSC
    obtain⟨k,rfl,hk,hsc,hb⟩:=hrel
    have hzw:=hb.size
    have e0:=(hb.cell (p:=⟨be,oe+n*6,none⟩) hbe).trans e0
    have e1:=(hb.cell (p:=⟨be,oe+n*6+1,none⟩) hbe).trans e1
    have e2:=(hb.cell (p:=⟨be,oe+n*6+2,none⟩) hbe).trans e2
    have e3:=(hb.cell (p:=⟨be,oe+n*6+3,none⟩) hbe).trans e3
    have e4:=(hb.cell (p:=⟨be,oe+n*6+4,none⟩) hbe).trans e4
    have e5:=(hb.cell (p:=⟨be,oe+n*6+5,none⟩) hbe).trans e5
    have hbe':be<wr.heap.size:=by omega
    have HB:=Lib.hid (And.intro hb (And.intro hsc hk))
    clear hb hsc hk
    by_cases hk0:0<k
    ·obtain⟨j,rfl⟩:∃ j,k=j+1:=⟨k-1,by omega⟩
     have hjl:j<out.length:=by have:=HB.out.2.2;have:=HOL.out;omega
     have hjI:(0:Int)<(j:Int)+1:=by omega
     have hjn:(j:Int)<n:=by have:=HOL.out;omega
     have hj0:(0:Int)≤j:=by omega
     have hwj:IntKind.i64.wrap (j:Int)=(j:Int):=IntWalk.i64_in _ (by have:=HOL.out;omega)
     obtain⟨bo,oo,Fd,Fu,fd,fu,eA,hbo,_,hrowF,hatF⟩:=litEntry (HO.out.2.1.belowAll HB.out.1) hjl
     have f0:=hatF.c0
     have f1:=hatF.c1
     have f2:=hatF.c2
     have f3:=hatF.c3
     have f4:=hatF.c4
     have f5:=hatF.c5
     dsimp only at f1 f2 f3 f4 f5
     obtain⟨F,hF⟩:∃ F,F=out[j]:=⟨_,rfl⟩
     rw [← hF] at f0 f1 f2 f3 f4 f5 hrowF
     have HF:=Lib.hid hF
     have hFm:F.puts.length≤9223372036854775807:=hrowF.u.1
     have hEm:E.puts.length≤9223372036854775807:=HROW.out.u.1
     clear hatF hF hrowF
     injection eA with eA
     injection eA with eA1 eA2
     subst eA1;subst eA2
     simp only [Nat.zero_add] at f0 f1 f2 f3 f4 f5
     go_wp2_with fail
     refine wp_region_noPanic ?_
     refine wp_region_headw 13 (fun w'=>w'.cell? ⟨be,oe+n*6,none⟩=some (.int .i64 E.task)∧w'.cell? ⟨be,oe+n*6+1,none⟩=some (.int .i64 E.act)∧w'.cell? ⟨be,oe+n*6+2,none⟩=some (.int .i64 E.whn)∧w'.cell? ⟨be,oe+n*6+3,none⟩=some (.slice Ad E.reads.length cd)∧w'.cell? ⟨be,oe+n*6+4,none⟩=some (.slice Au E.puts.length cu)∧w'.cell? ⟨be,oe+n*6+5,none⟩=some (.int .i64 E.frm)∧w'.cell? ⟨gA,j*6,none⟩=some (.int .i64 F.task)∧w'.cell? ⟨gA,j*6+1,none⟩=some (.int .i64 F.act)∧w'.cell? ⟨gA,j*6+2,none⟩=some (.int .i64 F.whn)∧w'.cell? ⟨gA,j*6+3,none⟩=some (.slice Fd F.reads.length fd)∧w'.cell? ⟨gA,j*6+4,none⟩=some (.slice Fu F.puts.length fu)∧w'.cell? ⟨gA,j*6+5,none⟩=some (.int .i64 F.frm)) (fun _=>True) (by kernel_rfl) (by kernel_rfl) (by (try dsimp only)<;>(first | (go_keep;done) | (go_split_ands;exact⟨v0,v1,v2,v3,v4,v5,v6,v7,v8,v9,v10,v11⟩))) (fun hHeld=>?_)
     refine heaw_take (i:=0) (v:=_) (by kernel_rfl) rfl (by kernel_rfl) (by kernel_rfl) (by kernel_rfl) (fun _ _ _ h=>h) (Or.inl ⟨by rfl,by (intro w hSw;(try dsimp only at hSw);go_simp<;>with_reducible rfl)⟩) (by assumption) ?_
     (try simp only [q1,q2,q3,Act.put,q4,q5,q6])
     refine heaw_take (i:=1) (v:=_) (by kernel_rfl) rfl (by kernel_rfl) (by kernel_rfl) (by kernel_rfl) (fun _ _ _ h=>h) (Or.inl ⟨by rfl,by (intro w hSw;(try dsimp only at hSw);go_simp<;>with_reducible rfl)⟩) (by assumption) ?_
     (try simp only [q1,q2,q3,Act.put,q4,q5,q6])
     refine heaw_take (i:=2) (v:=_) (by kernel_rfl) rfl (by kernel_rfl) (by kernel_rfl) (by kernel_rfl) (fun _ _ _ h=>h) (Or.inl ⟨by rfl,by (intro w hSw;(try dsimp only at hSw);go_simp<;>with_reducible rfl)⟩) (by assumption) ?_
     (try simp only [q1,q2,q3,Act.put,q4,q5,q6])
     refine heaw_take (i:=3) (v:=_) (by kernel_rfl) rfl (by kernel_rfl) (by kernel_rfl) (by kernel_rfl) (fun _ _ _ h=>h) (Or.inl ⟨by rfl,by (intro w hSw;(try dsimp only at hSw);go_simp<;>with_reducible rfl)⟩) (by assumption) ?_
     (try simp only [q1,q2,q3,Act.put,q4,q5,q6])
     refine heaw_take (i:=4) (v:=_) (by kernel_rfl) rfl (by kernel_rfl) (by kernel_rfl) (by kernel_rfl) (fun _ _ _ h=>h) (Or.inl ⟨by rfl,by (intro w hSw;(try dsimp only at hSw);go_simp<;>with_reducible rfl)⟩) (by assumption) ?_
     (try simp only [q1,q2,q3,Act.put,q4,q5,q6])
     refine heaw_take (i:=5) (v:=_) (by kernel_rfl) rfl (by kernel_rfl) (by kernel_rfl) (by kernel_rfl) (fun _ _ _ h=>h) (Or.inl ⟨by rfl,by (intro w hSw;(try dsimp only at hSw);go_simp<;>with_reducible rfl)⟩) (by assumption) ?_
     (try simp only [q1,q2,q3,Act.put,q4,q5,q6])
     refine heaw_take (i:=6) (v:=_) (by kernel_rfl) rfl (by kernel_rfl) (by kernel_rfl) (by kernel_rfl) (fun _ _ _ h=>h) (Or.inl ⟨by rfl,by (intro w hSw;(try dsimp only at hSw);go_simp<;>with_reducible rfl)⟩) (by assumption) ?_
     (try simp only [q1,q2,q3,Act.put,q4,q5,q6])
     refine heaw_take (i:=7) (v:=_) (by kernel_rfl) rfl (by kernel_rfl) (by kernel_rfl) (by kernel_rfl) (fun _ _ _ h=>h) (Or.inl ⟨by rfl,by (intro w hSw;(try dsimp only at hSw);go_simp<;>with_reducible rfl)⟩) (by assumption) ?_
     (try simp only [q1,q2,q3,Act.put,q4,q5,q6])
     refine heaw_take (i:=8) (v:=_) (by kernel_rfl) rfl (by kernel_rfl) (by kernel_rfl) (by kernel_rfl) (fun _ _ _ h=>h) (Or.inl ⟨by rfl,by (intro w hSw;(try dsimp only at hSw);go_simp<;>with_reducible rfl)⟩) (by assumption) ?_
     (try simp only [q1,q2,q3,Act.put,q4,q5,q6])
     refine heaw_take (i:=9) (v:=_) (by kernel_rfl) rfl (by kernel_rfl) (by kernel_rfl) (by kernel_rfl) (fun _ _ _ h=>h) (Or.inl ⟨by rfl,by (intro w hSw;(try dsimp only at hSw);go_simp<;>with_reducible rfl)⟩) (by assumption) ?_
     (try simp only [q1,q2,q3,Act.put,q4,q5,q6])
     refine heaw_take (i:=10) (v:=_) (by kernel_rfl) rfl (by kernel_rfl) (by kernel_rfl) (by kernel_rfl) (fun _ _ _ h=>h) (Or.inl ⟨by rfl,by (intro w hSw;(try dsimp only at hSw);go_simp<;>with_reducible rfl)⟩) (by assumption) ?_
     (try simp only [q1,q2,q3,Act.put,q4,q5,q6])
     refine heaw_take (i:=11) (v:=_) (by kernel_rfl) rfl (by kernel_rfl) (by kernel_rfl) (by kernel_rfl) (fun _ _ _ h=>h) (Or.inl ⟨by rfl,by (intro w hSw;(try dsimp only at hSw);go_simp<;>with_reducible rfl)⟩) (by assumption) ?_
     (try simp only [q1,q2,q3,Act.put,q4,q5,q6])
     refine heaw_next (i:=12) rfl (by kernel_rfl) (by kernel_rfl) (fun Kq hKq=>?_)
     (try simp only [q1,q2,q3])
     refine step_hold (a:=⟨_,_⟩) ?_
     go_simp
     (refine(l13Ahead_calls E F Ad Au Fd Fu cd cu fd fu _ hEm hFm).mono ?_;rintro e w5 ⟨rfl,hb5⟩;have hb5:Below wr.heap.size wr w5:=below_then ((Below.refl _ wr).drew) (Nat.le_refl _) hb5;have v0:=(hb5.cell (p:=⟨be,oe+n*6,none⟩) (by show be<wr.heap.size;omega)).trans e0;have v1:=(hb5.cell (p:=⟨be,oe+n*6+1,none⟩) (by show be<wr.heap.size;omega)).trans e1;have v2:=(hb5.cell (p:=⟨be,oe+n*6+2,none⟩) (by show be<wr.heap.size;omega)).trans e2;have v3:=(hb5.cell (p:=⟨be,oe+n*6+3,none⟩) (by show be<wr.heap.size;omega)).trans e3;have v4:=(hb5.cell (p:=⟨be,oe+n*6+4,none⟩) (by show be<wr.heap.size;omega)).trans e4;have v5:=(hb5.cell (p:=⟨be,oe+n*6+5,none⟩) (by show be<wr.heap.size;omega)).trans e5;have v6:=(hb5.cell (p:=⟨gA,j*6,none⟩) (by show gA<wr.heap.size;omega)).trans f0;have v7:=(hb5.cell (p:=⟨gA,j*6+1,none⟩) (by show gA<wr.heap.size;omega)).trans f1;have v8:=(hb5.cell (p:=⟨gA,j*6+2,none⟩) (by show gA<wr.heap.size;omega)).trans f2;have v9:=(hb5.cell (p:=⟨gA,j*6+3,none⟩) (by show gA<wr.heap.size;omega)).trans f3;have v10:=(hb5.cell (p:=⟨gA,j*6+4,none⟩) (by show gA<wr.heap.size;omega)).trans f4;have v11:=(hb5.cell (p:=⟨gA,j*6+5,none⟩) (by show gA<wr.heap.size;omega)).trans f5;have HB5:=Lib.hid hb5;clear hb5)
     refine hKq.out _ _ (by (try dsimp only)<;>(first | (go_keep;done) | (go_split_ands;exact⟨v0,v1,v2,v3,v4,v5,v6,v7,v8,v9,v10,v11⟩))) (fun hHeld=>?_)
     clear hKq Kq
     (try simp only [q1,q2,q3,Act.put,q4,q5,q6])
     refine heaw_done (by kernel_rfl) ?_
     refine wpAnyH_take (i:=13) (v:=_) rfl (by kernel_rfl) (by kernel_rfl) (by kernel_rfl) (fun _ _ _ h=>h) (Or.inl ⟨by rfl,by (intro w hSw;go_simp<;>with_reducible rfl)⟩) trivial ?_
     (try simp only [q1,q2,q3,Act.put,q4,q5,q6])
     refine wpAnyH_done (by kernel_rfl) (NoPanic.normal ?_) _
     clear e0 e1 e2 e3 e4 e5 f0 f1 f2 f3 f4 f5 v0 v1 v2 v3 v4 v5 v6 v7 v8 v9 v10 v11 hHeld
     cases ha:aheadE E F with
     | true =>
      have HN:=Lib.hid (show scanAt E out out.length=scanAt E out j from by rw [HB.out.2.1,scanAt,getD_at _ _ _ hjl,← HF.out,ha];rfl)
      have HB9:=Lib.hid (belowTwo HB.out.1 hzw (Nat.le_refl _) HB5.out)
      clear ha
      go_wp2
      exact⟨⟨j,rfl,by omega,HN.out,HB9.out⟩,by simp [intOf]⟩
     | false =>
      have HN:=Lib.hid (show scanAt E out out.length=j+1 from by rw [HB.out.2.1,scanAt,getD_at _ _ _ hjl,← HF.out,ha];rfl)
      have HB9:=Lib.hid (belowTwo HB.out.1 hzw (Nat.le_refl _) HB5.out)
      clear ha
      go_wp2_with fail
      have hbe5:be<w5.heap.size:=by have:=HB9.out.size;omega
      obtain⟨e0,e1,e2,e3,e4,e5⟩:=HAT.out
      have e0:=(HB9.out.cell (p:=⟨be,oe+n*6,none⟩) hbe).trans e0
      have e1:=(HB9.out.cell (p:=⟨be,oe+n*6+1,none⟩) hbe).trans e1
      have e2:=(HB9.out.cell (p:=⟨be,oe+n*6+2,none⟩) hbe).trans e2
      have e3:=(HB9.out.cell (p:=⟨be,oe+n*6+3,none⟩) hbe).trans e3
      have e4:=(HB9.out.cell (p:=⟨be,oe+n*6+4,none⟩) hbe).trans e4
      have e5:=(HB9.out.cell (p:=⟨be,oe+n*6+5,none⟩) hbe).trans e5
      have HKN:=Lib.hid (show (j+1)≤out.length by have:=HOL.out;have:=HB.out.2.2;omega)
      have hcK:n≤c:=by have:=HO.out.2.2.1;have:=HOL.out;omega
      have hKc9:(j:Int)+1≤c:=by have:=HB.out.2.2;omega
      have hK09:(0:Int)≤(j:Int)+1:=by omega
      have hKn9:(j:Int)+1≤n:=by have:=HB.out.2.2;omega
      have hKn:(((j+1):Nat):Int)≤n:=by have:=HB.out.2.2;omega
      have hK0:(0:Int)≤(((j+1):Nat):Int):=by omega
      have hKc:(((j+1):Nat):Int)≤c:=by omega
      have HR5:=Lib.hid (HO.out.2.1.bound.belowAll HB9.out)
      refine wp_region_noPanic ?_
      refine wp_region_headw 12 (fun w'=>w'.cell? ⟨be,oe+n*6,none⟩=some (.int .i64 E.task)∧w'.cell? ⟨be,oe+n*6+1,none⟩=some (.int .i64 E.act)∧w'.cell? ⟨be,oe+n*6+2,none⟩=some (.int .i64 E.whn)∧w'.cell? ⟨be,oe+n*6+3,none⟩=some (.slice Ad E.reads.length cd)∧w'.cell? ⟨be,oe+n*6+4,none⟩=some (.slice Au E.puts.length cu)∧w'.cell? ⟨be,oe+n*6+5,none⟩=some (.int .i64 E.frm)) (fun _=>True) (by kernel_rfl) (by kernel_rfl) (by (try dsimp only)<;>(first | (go_keep;done) | (go_split_ands;exact⟨v0,v1,v2,v3,v4,v5⟩))) (fun hHeld=>?_)
      refine heaw_take (i:=1) (v:=_) (by kernel_rfl) rfl (by kernel_rfl) (by kernel_rfl) (by kernel_rfl) (fun _ _ _ h=>h) (Or.inl ⟨by rfl,by (intro w hSw;(try dsimp only at hSw);go_simp<;>with_reducible rfl)⟩) (by assumption) ?_
      (try simp only [q1,q2,q3,Act.put,q4,q5,q6])
      refine heaw_take (i:=2) (v:=_) (by kernel_rfl) rfl (by kernel_rfl) (by kernel_rfl) (by kernel_rfl) (fun _ _ _ h=>h) (Or.inl ⟨by rfl,by (intro w hSw;(try dsimp only at hSw);go_simp<;>with_reducible rfl)⟩) (by assumption) ?_
      (try simp only [q1,q2,q3,Act.put,q4,q5,q6])
      refine heaw_take (i:=3) (v:=_) (by kernel_rfl) rfl (by kernel_rfl) (by kernel_rfl) (by kernel_rfl) (fun _ _ _ h=>h) (Or.inl ⟨by rfl,by (intro w hSw;(try dsimp only at hSw);go_simp<;>with_reducible rfl)⟩) (by assumption) ?_
      (try simp only [q1,q2,q3,Act.put,q4,q5,q6])
      refine heaw_take (i:=5) (v:=_) (by kernel_rfl) rfl (by kernel_rfl) (by kernel_rfl) (by kernel_rfl) (fun _ _ _ h=>h) (Or.inl ⟨by rfl,by (intro w hSw;(try dsimp only at hSw);go_simp<;>with_reducible rfl)⟩) (by assumption) ?_
      (try simp only [q1,q2,q3,Act.put,q4,q5,q6])
      refine heaw_take (i:=6) (v:=_) (by kernel_rfl) rfl (by kernel_rfl) (by kernel_rfl) (by kernel_rfl) (fun _ _ _ h=>h) (Or.inl ⟨by rfl,by (intro w hSw;(try dsimp only at hSw);go_simp<;>with_reducible rfl)⟩) (by assumption) ?_
      (try simp only [q1,q2,q3,Act.put,q4,q5,q6])
      refine heaw_take (i:=7) (v:=_) (by kernel_rfl) rfl (by kernel_rfl) (by kernel_rfl) (by kernel_rfl) (fun _ _ _ h=>h) (Or.inl ⟨by rfl,by (intro w hSw;(try dsimp only at hSw);go_simp<;>with_reducible rfl)⟩) (by assumption) ?_
      (try simp only [q1,q2,q3,Act.put,q4,q5,q6])
      refine heaw_take (i:=8) (v:=_) (by kernel_rfl) rfl (by kernel_rfl) (by kernel_rfl) (by kernel_rfl) (fun _ _ _ h=>h) (Or.inl ⟨by rfl,by (intro w hSw;(try dsimp only at hSw);go_simp<;>with_reducible rfl)⟩) (by assumption) ?_
      (try simp only [q1,q2,q3,Act.put,q4,q5,q6])
      refine heaw_next (i:=0) rfl (by kernel_rfl) (by kernel_rfl) (fun Kq hKq=>?_)
      (try simp only [q1,q2,q3])
      refine step_hold (a:=⟨_,_⟩) ?_
      go_simp
      refine hKq.out _ _ (by (try dsimp only)<;>(first | (go_keep;done) | (go_split_ands;exact⟨v0,v1,v2,v3,v4,v5⟩))) (fun hHeld=>?_)
      clear hKq Kq
      (try simp only [q1,q2,q3,Act.put,q4,q5,q6])
      refine heaw_next (i:=4) rfl (by kernel_rfl) (by kernel_rfl) (fun Kq hKq=>?_)
      (try simp only [q1,q2,q3])
      refine step_hold (a:=⟨_,_⟩) ?_
      (refine step_clone_n (d:=kEntry) (n:=j+1) (S:=fun k=>w.heap.size≤k∧k<wo.heap.size) (ys:=out.take (j+1)) w5.drew (by rfl) (by have:=HKN.out;first | (simp;done) | (rw [List.length_take];omega)) (by rfl) _ _ _ (by rfl) Tryz.underlying43 _ 80 infoEntry rfl (by decide) (by decide) (by rfl) (some ⟨gA,0,none⟩) c (by rfl) ((HR5.out.take (j+1)).belowAll ((Below.refl _ w5).drew)) (by have:=HKN.out;have:=HOL.out;omega) ?_;intro v6 w6 ho6 hb6;have hb6:Below w5.heap.size w5 w6:=below_then ((Below.refl _ w5).drew) (Nat.le_refl _) hb6;have hz6:=hb6.size;have v0:=(hb6.cell (p:=⟨be,oe+n*6,none⟩) (by show be<w5.heap.size;omega)).trans e0;have v1:=(hb6.cell (p:=⟨be,oe+n*6+1,none⟩) (by show be<w5.heap.size;omega)).trans e1;have v2:=(hb6.cell (p:=⟨be,oe+n*6+2,none⟩) (by show be<w5.heap.size;omega)).trans e2;have v3:=(hb6.cell (p:=⟨be,oe+n*6+3,none⟩) (by show be<w5.heap.size;omega)).trans e3;have v4:=(hb6.cell (p:=⟨be,oe+n*6+4,none⟩) (by show be<w5.heap.size;omega)).trans e4;have v5:=(hb6.cell (p:=⟨be,oe+n*6+5,none⟩) (by show be<w5.heap.size;omega)).trans e5;have HO6:=Lib.hid ho6;have HB6:=Lib.hid hb6;clear ho6 hb6)
      refine hKq.out _ _ (by (try dsimp only)<;>(first | (go_keep;done) | (go_split_ands;exact⟨v0,v1,v2,v3,v4,v5⟩))) (fun hHeld=>?_)
      clear hKq Kq
      (try simp only [q1,q2,q3,Act.put,q4,q5,q6])
      refine heaw_next (i:=9) rfl (by kernel_rfl) (by kernel_rfl) (fun Kq hKq=>?_)
      (try simp only [q1,q2,q3])
      refine step_hold (a:=⟨_,_⟩) ?_
      go_simp
      (refine(l13Entry_calls E Ad Au cd cu w6 S ⟨HROW.out.ld,HROW.out.lu,(HROW.out.d.belowAll HB9.out).belowAll HB6.out,(HROW.out.u.belowAll HB9.out).belowAll HB6.out⟩ (fun k hk=>by have:=hSS k hk;have:=HB9.out.size;omega) hEp.1 hEp.2).mono ?_;rintro e w7 ⟨D7,U7,d7,u7,rfl,hr7,hb7⟩;have hz7:=hb7.size;have v0:=(hb7.cell (p:=⟨be,oe+n*6,none⟩) (by show be<w6.heap.size;omega)).trans v0;have v1:=(hb7.cell (p:=⟨be,oe+n*6+1,none⟩) (by show be<w6.heap.size;omega)).trans v1;have v2:=(hb7.cell (p:=⟨be,oe+n*6+2,none⟩) (by show be<w6.heap.size;omega)).trans v2;have v3:=(hb7.cell (p:=⟨be,oe+n*6+3,none⟩) (by show be<w6.heap.size;omega)).trans v3;have v4:=(hb7.cell (p:=⟨be,oe+n*6+4,none⟩) (by show be<w6.heap.size;omega)).trans v4;have v5:=(hb7.cell (p:=⟨be,oe+n*6+5,none⟩) (by show be<w6.heap.size;omega)).trans v5;have HR7:=Lib.hid hr7;have HB7:=Lib.hid hb7;clear hr7 hb7)
      refine hKq.out _ _ (by (try dsimp only)<;>(first | (go_keep;done) | (go_split_ands;exact⟨v0,v1,v2,v3,v4,v5⟩))) (fun hHeld=>?_)
      clear hKq Kq
      (try simp only [q1,q2,q3,Act.put,q4,q5,q6])
      refine heaw_next (i:=10) rfl (by kernel_rfl) (by kernel_rfl) (fun Kq hKq=>?_)
      (try simp only [q1,q2,q3])
      refine step_hold (a:=⟨_,_⟩) ?_
      go_simp
      refine hKq.out _ _ (by (try dsimp only)<;>(first | (go_keep;done) | (go_split_ands;exact⟨v0,v1,v2,v3,v4,v5⟩))) (fun hHeld=>?_)
      clear hKq Kq
      (try simp only [q1,q2,q3,Act.put,q4,q5,q6])
      refine heaw_next (i:=11) rfl (by kernel_rfl) (by kernel_rfl) (fun Kq hKq=>?_)
      (try simp only [q1,q2,q3])
      refine step_hold (a:=⟨_,_⟩) ?_
      (refine step_append_kd (d:=kEntry) (by rfl) _ _ _ (by rfl) Tryz.underlying43 _ 80 infoEntry rfl (by decide) (by decide) (by rfl) (Own.belowAll (Own.belowAll HO6.out HB7.out) (alB w7 _)) _ 1 (by rfl) (rowOneAt (d:=kEntry) (e:=68) (S:=fun k=>w6.heap.size≤k∧k<w7.heap.size) (x:=E) w7.heap.size (entry_K HR7.out) rfl) (fun k hk e=>by have:=(Own.blk HO6.out k e.symm).2.1;omega) (by have:=HKN.out;have:=HOL.out;simp only [List.length_take,List.length_cons,List.length_nil];omega) (by have:=HB6.out.size;simp;omega) ?_;intro v8 w8 ho8 hg8 hv8;have hk8:=Keep.of_grown (T:=fun k=>v6.ownBlock=some k) hg8 (fun k e=>e);have v0:=(hk8.cell (p:=⟨be,oe+n*6,none⟩) (by show be<_;simp;omega) (fun e=>by have h9:w5.heap.size≤be:=(Own.blk HO6.out be e).1;omega)).trans (((alB w7 _).cell (p:=⟨be,oe+n*6,none⟩) (by show be<w7.heap.size;omega)).trans v0);have v1:=(hk8.cell (p:=⟨be,oe+n*6+1,none⟩) (by show be<_;simp;omega) (fun e=>by have h9:w5.heap.size≤be:=(Own.blk HO6.out be e).1;omega)).trans (((alB w7 _).cell (p:=⟨be,oe+n*6+1,none⟩) (by show be<w7.heap.size;omega)).trans v1);have v2:=(hk8.cell (p:=⟨be,oe+n*6+2,none⟩) (by show be<_;simp;omega) (fun e=>by have h9:w5.heap.size≤be:=(Own.blk HO6.out be e).1;omega)).trans (((alB w7 _).cell (p:=⟨be,oe+n*6+2,none⟩) (by show be<w7.heap.size;omega)).trans v2);have v3:=(hk8.cell (p:=⟨be,oe+n*6+3,none⟩) (by show be<_;simp;omega) (fun e=>by have h9:w5.heap.size≤be:=(Own.blk HO6.out be e).1;omega)).trans (((alB w7 _).cell (p:=⟨be,oe+n*6+3,none⟩) (by show be<w7.heap.size;omega)).trans v3);have v4:=(hk8.cell (p:=⟨be,oe+n*6+4,none⟩) (by show be<_;simp;omega) (fun e=>by have h9:w5.heap.size≤be:=(Own.blk HO6.out be e).1;omega)).trans (((alB w7 _).cell (p:=⟨be,oe+n*6+4,none⟩) (by show be<w7.heap.size;omega)).trans v4);have v5:=(hk8.cell (p:=⟨be,oe+n*6+5,none⟩) (by show be<_;simp;omega) (fun e=>by have h9:w5.heap.size≤be:=(Own.blk HO6.out be e).1;omega)).trans (((alB w7 _).cell (p:=⟨be,oe+n*6+5,none⟩) (by show be<w7.heap.size;omega)).trans v5);obtain⟨A8,c8,ev8,_⟩:=Own.slice ho8;rw [show (out.take (j+1) ++ [E]).length=j+1+1 from (by have:=HKN.out;simp;omega)] at ev8;subst ev8;have HO8:=Lib.hid (And.intro ho8 (And.intro hk8 hv8));clear ho8 hg8 hv8 hk8)
      refine hKq.out _ _ (by (try dsimp only)<;>(first | (go_keep;done) | (go_split_ands;exact⟨v0,v1,v2,v3,v4,v5⟩))) (fun hHeld=>?_)
      clear hKq Kq
      (try simp only [q1,q2,q3,Act.put,q4,q5,q6])
      refine heaw_done (by kernel_rfl) ?_
      refine wpAnyH_take (i:=12) (v:=_) rfl (by kernel_rfl) (by kernel_rfl) (by kernel_rfl) (fun _ _ _ h=>h) (Or.inl ⟨by rfl,by (intro w hSw;go_simp<;>with_reducible rfl)⟩) trivial ?_
      (try simp only [q1,q2,q3,Act.put,q4,q5,q6])
      refine wpAnyH_done (by kernel_rfl) (NoPanic.normal ?_) _
      clear e0 e1 e2 e3 e4 e5 v0 v1 v2 v3 v4 v5 hHeld
      have HR8:=Lib.hid (drop_if (K:=j+1) (c:=c) (((((HR5.out.belowAll HB6.out).belowAll HB7.out).belowAll (alB w7 _)).keep HO8.out.2.1 (fun k h _ e=>by have h9:w5.heap.size≤k:=(Own.blk HO6.out k e).1;have:=HB9.out.size;omega))) (by have:=HO.out.2.2.1;omega))
      go_wp2_with (at_builtin;go_must (refine wpList_append_n (d:=kEntry) (n:=n-(j+1)) (ys:=out.drop (j+1)) (S2:=fun k=>w.heap.size≤k∧k<wo.heap.size) (by have:=HOL.out;rw [List.length_drop];omega) rfl (.tmp 44) (.tmp 47) _ rfl Tryz.underlying43 _ 80 infoEntry rfl (by decide) (by decide) rfl HO8.out.1 _ (c-(j+1)) rfl HR8.out (fun k hk e=>by have h1:=HO8.out.2.2;have z:=HB9.out.size;rcases h1 with h1 | h1;have h9:w5.heap.size≤k:=(Own.blk HO6.out k (h1.symm.trans e.symm)).1;omega;have e2:=Option.some.inj (h1.symm.trans e.symm);simp at e2;omega) (by have:=HKN.out;have:=HOL.out;simp only [List.length_append,List.length_take,List.length_cons,List.length_nil];omega) (by have h9:=HO8.out.2.1.size;simp at h9;show w5.heap.size≤_;omega) ?_;intro v9 w9 ho9 hg9 hv9;have HO9:=Lib.hid (And.intro ho9 hg9);clear ho9 hg9 hv9))
      obtain⟨g9,c9,ev9,ho9,hb9⟩:=ord_end (K:=j+1) (belowTwo HO.out.2.2.2 hz (Nat.le_refl _) HB9.out) HO6.out HB6.out HB7.out HO8.out.2.1 HO8.out.1 HO9.out.2 HO9.out.1 (fun k hk=>by
       have z9:=HB9.out.size
       have z8:=HO8.out.2.1.size
       simp at z8
       rcases hk with h | h | h
       ·rcases h with h | h | h
        ·rcases h with h | h
         ·exact h.1
         ·have h9:w5.heap.size≤k:=h;omega
        ·rcases h with h | h
         ·have:=h.1;omega
         ·omega
        ·simp at h;omega
       ·exact h.1
       ·omega) HKN.out HN.out
      have HEND:=Lib.hid (And.intro ho9 hb9)
      have HLO:=Lib.hid (show logOrder (l.take (n+1))=ordIn out E from by rw [logOrder_snoc l n hlt,← HOUT.out,← HE.out])
      rw [HOL.out] at ev9
      subst ev9
      clear ho9 hb9 HO9 HO8 HR8 HR7 HO6
      exact⟨⟨n+1,g9,c9,by omega,by go_num,rfl,by rw [HLO.out];exact HEND.out.1,HEND.out.2⟩,by simp [intOf];omega⟩
    ·obtain rfl:k=0:=by omega
     have HN:=Lib.hid (show scanAt E out out.length=0 from by rw [HB.out.2.1];rfl)
     clear e0 e1 e2 e3 e4 e5
     go_wp2_with fail
     go_quiet (fail)
     go_wp2_with fail
     obtain⟨w5,hw5⟩:∃ w5,w5=wr.drewN nq:=⟨_,rfl⟩
     rw [← hw5]
     have HB9:Hid (Below wo.heap.size wo w5):=Lib.hid (by rw [hw5];exact below_drewN' HB.out.1 _)
     clear hw5
     have hbe5:be<w5.heap.size:=by have:=HB9.out.size;omega
     obtain⟨e0,e1,e2,e3,e4,e5⟩:=HAT.out
     have e0:=(HB9.out.cell (p:=⟨be,oe+n*6,none⟩) hbe).trans e0
     have e1:=(HB9.out.cell (p:=⟨be,oe+n*6+1,none⟩) hbe).trans e1
     have e2:=(HB9.out.cell (p:=⟨be,oe+n*6+2,none⟩) hbe).trans e2
     have e3:=(HB9.out.cell (p:=⟨be,oe+n*6+3,none⟩) hbe).trans e3
     have e4:=(HB9.out.cell (p:=⟨be,oe+n*6+4,none⟩) hbe).trans e4
     have e5:=(HB9.out.cell (p:=⟨be,oe+n*6+5,none⟩) hbe).trans e5
     have HKN:=Lib.hid (show 0≤out.length by have:=HOL.out;have:=HB.out.2.2;omega)
     have hcK:n≤c:=by have:=HO.out.2.2.1;have:=HOL.out;omega
     have hKn:((0:Nat):Int)≤n:=by have:=HB.out.2.2;omega
     have hK0:(0:Int)≤((0:Nat):Int):=by omega
     have hKc:((0:Nat):Int)≤c:=by omega
     have HR5:=Lib.hid (HO.out.2.1.bound.belowAll HB9.out)
     refine wp_region_noPanic ?_
     refine wp_region_headw 12 (fun w'=>w'.cell? ⟨be,oe+n*6,none⟩=some (.int .i64 E.task)∧w'.cell? ⟨be,oe+n*6+1,none⟩=some (.int .i64 E.act)∧w'.cell? ⟨be,oe+n*6+2,none⟩=some (.int .i64 E.whn)∧w'.cell? ⟨be,oe+n*6+3,none⟩=some (.slice Ad E.reads.length cd)∧w'.cell? ⟨be,oe+n*6+4,none⟩=some (.slice Au E.puts.length cu)∧w'.cell? ⟨be,oe+n*6+5,none⟩=some (.int .i64 E.frm)) (fun _=>True) (by kernel_rfl) (by kernel_rfl) (by (try dsimp only)<;>(first | (go_keep;done) | (go_split_ands;exact⟨v0,v1,v2,v3,v4,v5⟩))) (fun hHeld=>?_)
     refine heaw_take (i:=1) (v:=_) (by kernel_rfl) rfl (by kernel_rfl) (by kernel_rfl) (by kernel_rfl) (fun _ _ _ h=>h) (Or.inl ⟨by rfl,by (intro w hSw;(try dsimp only at hSw);go_simp<;>with_reducible rfl)⟩) (by assumption) ?_
     (try simp only [q1,q2,q3,Act.put,q4,q5,q6])
     refine heaw_take (i:=2) (v:=_) (by kernel_rfl) rfl (by kernel_rfl) (by kernel_rfl) (by kernel_rfl) (fun _ _ _ h=>h) (Or.inl ⟨by rfl,by (intro w hSw;(try dsimp only at hSw);go_simp<;>with_reducible rfl)⟩) (by assumption) ?_
     (try simp only [q1,q2,q3,Act.put,q4,q5,q6])
     refine heaw_take (i:=3) (v:=_) (by kernel_rfl) rfl (by kernel_rfl) (by kernel_rfl) (by kernel_rfl) (fun _ _ _ h=>h) (Or.inl ⟨by rfl,by (intro w hSw;(try dsimp only at hSw);go_simp<;>with_reducible rfl)⟩) (by assumption) ?_
     (try simp only [q1,q2,q3,Act.put,q4,q5,q6])
     refine heaw_take (i:=5) (v:=_) (by kernel_rfl) rfl (by kernel_rfl) (by kernel_rfl) (by kernel_rfl) (fun _ _ _ h=>h) (Or.inl ⟨by rfl,by (intro w hSw;(try dsimp only at hSw);go_simp<;>with_reducible rfl)⟩) (by assumption) ?_
     (try simp only [q1,q2,q3,Act.put,q4,q5,q6])
     refine heaw_take (i:=6) (v:=_) (by kernel_rfl) rfl (by kernel_rfl) (by kernel_rfl) (by kernel_rfl) (fun _ _ _ h=>h) (Or.inl ⟨by rfl,by (intro w hSw;(try dsimp only at hSw);go_simp<;>with_reducible rfl)⟩) (by assumption) ?_
     (try simp only [q1,q2,q3,Act.put,q4,q5,q6])
     refine heaw_take (i:=7) (v:=_) (by kernel_rfl) rfl (by kernel_rfl) (by kernel_rfl) (by kernel_rfl) (fun _ _ _ h=>h) (Or.inl ⟨by rfl,by (intro w hSw;(try dsimp only at hSw);go_simp<;>with_reducible rfl)⟩) (by assumption) ?_
     (try simp only [q1,q2,q3,Act.put,q4,q5,q6])
     refine heaw_take (i:=8) (v:=_) (by kernel_rfl) rfl (by kernel_rfl) (by kernel_rfl) (by kernel_rfl) (fun _ _ _ h=>h) (Or.inl ⟨by rfl,by (intro w hSw;(try dsimp only at hSw);go_simp<;>with_reducible rfl)⟩) (by assumption) ?_
     (try simp only [q1,q2,q3,Act.put,q4,q5,q6])
     refine heaw_next (i:=0) rfl (by kernel_rfl) (by kernel_rfl) (fun Kq hKq=>?_)
     (try simp only [q1,q2,q3])
     refine step_hold (a:=⟨_,_⟩) ?_
     go_simp
     refine hKq.out _ _ (by (try dsimp only)<;>(first | (go_keep;done) | (go_split_ands;exact⟨v0,v1,v2,v3,v4,v5⟩))) (fun hHeld=>?_)
     clear hKq Kq
     (try simp only [q1,q2,q3,Act.put,q4,q5,q6])
     refine heaw_next (i:=4) rfl (by kernel_rfl) (by kernel_rfl) (fun Kq hKq=>?_)
     (try simp only [q1,q2,q3])
     refine step_hold (a:=⟨_,_⟩) ?_
     (refine step_clone_n (d:=kEntry) (n:=0) (S:=fun k=>w.heap.size≤k∧k<wo.heap.size) (ys:=out.take 0) w5.drew (by rfl) (by have:=HKN.out;first | (simp;done) | (rw [List.length_take];omega)) (by rfl) _ _ _ (by rfl) Tryz.underlying43 _ 80 infoEntry rfl (by decide) (by decide) (by rfl) (some ⟨gA,0,none⟩) c (by rfl) ((HR5.out.take 0).belowAll ((Below.refl _ w5).drew)) (by have:=HKN.out;have:=HOL.out;omega) ?_;intro v6 w6 ho6 hb6;have hb6:Below w5.heap.size w5 w6:=below_then ((Below.refl _ w5).drew) (Nat.le_refl _) hb6;have hz6:=hb6.size;have v0:=(hb6.cell (p:=⟨be,oe+n*6,none⟩) (by show be<w5.heap.size;omega)).trans e0;have v1:=(hb6.cell (p:=⟨be,oe+n*6+1,none⟩) (by show be<w5.heap.size;omega)).trans e1;have v2:=(hb6.cell (p:=⟨be,oe+n*6+2,none⟩) (by show be<w5.heap.size;omega)).trans e2;have v3:=(hb6.cell (p:=⟨be,oe+n*6+3,none⟩) (by show be<w5.heap.size;omega)).trans e3;have v4:=(hb6.cell (p:=⟨be,oe+n*6+4,none⟩) (by show be<w5.heap.size;omega)).trans e4;have v5:=(hb6.cell (p:=⟨be,oe+n*6+5,none⟩) (by show be<w5.heap.size;omega)).trans e5;have HO6:=Lib.hid ho6;have HB6:=Lib.hid hb6;clear ho6 hb6)
     refine hKq.out _ _ (by (try dsimp only)<;>(first | (go_keep;done) | (go_split_ands;exact⟨v0,v1,v2,v3,v4,v5⟩))) (fun hHeld=>?_)
     clear hKq Kq
     (try simp only [q1,q2,q3,Act.put,q4,q5,q6])
     refine heaw_next (i:=9) rfl (by kernel_rfl) (by kernel_rfl) (fun Kq hKq=>?_)
     (try simp only [q1,q2,q3])
     refine step_hold (a:=⟨_,_⟩) ?_
     go_simp
     (refine(l13Entry_calls E Ad Au cd cu w6 S ⟨HROW.out.ld,HROW.out.lu,(HROW.out.d.belowAll HB9.out).belowAll HB6.out,(HROW.out.u.belowAll HB9.out).belowAll HB6.out⟩ (fun k hk=>by have:=hSS k hk;have:=HB9.out.size;omega) hEp.1 hEp.2).mono ?_;rintro e w7 ⟨D7,U7,d7,u7,rfl,hr7,hb7⟩;have hz7:=hb7.size;have v0:=(hb7.cell (p:=⟨be,oe+n*6,none⟩) (by show be<w6.heap.size;omega)).trans v0;have v1:=(hb7.cell (p:=⟨be,oe+n*6+1,none⟩) (by show be<w6.heap.size;omega)).trans v1;have v2:=(hb7.cell (p:=⟨be,oe+n*6+2,none⟩) (by show be<w6.heap.size;omega)).trans v2;have v3:=(hb7.cell (p:=⟨be,oe+n*6+3,none⟩) (by show be<w6.heap.size;omega)).trans v3;have v4:=(hb7.cell (p:=⟨be,oe+n*6+4,none⟩) (by show be<w6.heap.size;omega)).trans v4;have v5:=(hb7.cell (p:=⟨be,oe+n*6+5,none⟩) (by show be<w6.heap.size;omega)).trans v5;have HR7:=Lib.hid hr7;have HB7:=Lib.hid hb7;clear hr7 hb7)
     refine hKq.out _ _ (by (try dsimp only)<;>(first | (go_keep;done) | (go_split_ands;exact⟨v0,v1,v2,v3,v4,v5⟩))) (fun hHeld=>?_)
     clear hKq Kq
     (try simp only [q1,q2,q3,Act.put,q4,q5,q6])
     refine heaw_next (i:=10) rfl (by kernel_rfl) (by kernel_rfl) (fun Kq hKq=>?_)
     (try simp only [q1,q2,q3])
     refine step_hold (a:=⟨_,_⟩) ?_
     go_simp
     refine hKq.out _ _ (by (try dsimp only)<;>(first | (go_keep;done) | (go_split_ands;exact⟨v0,v1,v2,v3,v4,v5⟩))) (fun hHeld=>?_)
     clear hKq Kq
     (try simp only [q1,q2,q3,Act.put,q4,q5,q6])
     refine heaw_next (i:=11) rfl (by kernel_rfl) (by kernel_rfl) (fun Kq hKq=>?_)
     (try simp only [q1,q2,q3])
     refine step_hold (a:=⟨_,_⟩) ?_
     (refine step_append_kd (d:=kEntry) (by rfl) _ _ _ (by rfl) Tryz.underlying43 _ 80 infoEntry rfl (by decide) (by decide) (by rfl) (Own.belowAll (Own.belowAll HO6.out HB7.out) (alB w7 _)) _ 1 (by rfl) (rowOneAt (d:=kEntry) (e:=68) (S:=fun k=>w6.heap.size≤k∧k<w7.heap.size) (x:=E) w7.heap.size (entry_K HR7.out) rfl) (fun k hk e=>by have:=(Own.blk HO6.out k e.symm).2.1;omega) (by have:=HKN.out;have:=HOL.out;simp only [List.length_take,List.length_cons,List.length_nil];omega) (by have:=HB6.out.size;simp;omega) ?_;intro v8 w8 ho8 hg8 hv8;have hk8:=Keep.of_grown (T:=fun k=>v6.ownBlock=some k) hg8 (fun k e=>e);have v0:=(hk8.cell (p:=⟨be,oe+n*6,none⟩) (by show be<_;simp;omega) (fun e=>by have h9:w5.heap.size≤be:=(Own.blk HO6.out be e).1;omega)).trans (((alB w7 _).cell (p:=⟨be,oe+n*6,none⟩) (by show be<w7.heap.size;omega)).trans v0);have v1:=(hk8.cell (p:=⟨be,oe+n*6+1,none⟩) (by show be<_;simp;omega) (fun e=>by have h9:w5.heap.size≤be:=(Own.blk HO6.out be e).1;omega)).trans (((alB w7 _).cell (p:=⟨be,oe+n*6+1,none⟩) (by show be<w7.heap.size;omega)).trans v1);have v2:=(hk8.cell (p:=⟨be,oe+n*6+2,none⟩) (by show be<_;simp;omega) (fun e=>by have h9:w5.heap.size≤be:=(Own.blk HO6.out be e).1;omega)).trans (((alB w7 _).cell (p:=⟨be,oe+n*6+2,none⟩) (by show be<w7.heap.size;omega)).trans v2);have v3:=(hk8.cell (p:=⟨be,oe+n*6+3,none⟩) (by show be<_;simp;omega) (fun e=>by have h9:w5.heap.size≤be:=(Own.blk HO6.out be e).1;omega)).trans (((alB w7 _).cell (p:=⟨be,oe+n*6+3,none⟩) (by show be<w7.heap.size;omega)).trans v3);have v4:=(hk8.cell (p:=⟨be,oe+n*6+4,none⟩) (by show be<_;simp;omega) (fun e=>by have h9:w5.heap.size≤be:=(Own.blk HO6.out be e).1;omega)).trans (((alB w7 _).cell (p:=⟨be,oe+n*6+4,none⟩) (by show be<w7.heap.size;omega)).trans v4);have v5:=(hk8.cell (p:=⟨be,oe+n*6+5,none⟩) (by show be<_;simp;omega) (fun e=>by have h9:w5.heap.size≤be:=(Own.blk HO6.out be e).1;omega)).trans (((alB w7 _).cell (p:=⟨be,oe+n*6+5,none⟩) (by show be<w7.heap.size;omega)).trans v5);obtain⟨A8,c8,ev8,_⟩:=Own.slice ho8;rw [show (out.take 0 ++ [E]).length=1 from (by simp)] at ev8;subst ev8;have HO8:=Lib.hid (And.intro ho8 (And.intro hk8 hv8));clear ho8 hg8 hv8 hk8)
     refine hKq.out _ _ (by (try dsimp only)<;>(first | (go_keep;done) | (go_split_ands;exact⟨v0,v1,v2,v3,v4,v5⟩))) (fun hHeld=>?_)
     clear hKq Kq
     (try simp only [q1,q2,q3,Act.put,q4,q5,q6])
     refine heaw_done (by kernel_rfl) ?_
     refine wpAnyH_take (i:=12) (v:=_) rfl (by kernel_rfl) (by kernel_rfl) (by kernel_rfl) (fun _ _ _ h=>h) (Or.inl ⟨by rfl,by (intro w hSw;go_simp<;>with_reducible rfl)⟩) trivial ?_
     (try simp only [q1,q2,q3,Act.put,q4,q5,q6])
     refine wpAnyH_done (by kernel_rfl) (NoPanic.normal ?_) _
     clear e0 e1 e2 e3 e4 e5 v0 v1 v2 v3 v4 v5 hHeld
     have HR8:=Lib.hid (show Row kEntry w8 _ (some ⟨gA,0,none⟩) (out.drop 0) from (((((HR5.out.belowAll HB6.out).belowAll HB7.out).belowAll (alB w7 _)).keep HO8.out.2.1 (fun k h _ e=>by have h9:w5.heap.size≤k:=(Own.blk HO6.out k e).1;have:=HB9.out.size;omega))))
     go_wp2_with (at_builtin;go_must (refine wpList_append_n (d:=kEntry) (n:=n) (ys:=out.drop 0) (S2:=fun k=>w.heap.size≤k∧k<wo.heap.size) (by have:=HOL.out;rw [List.length_drop];omega) rfl (.tmp 44) (.tmp 47) _ rfl Tryz.underlying43 _ 80 infoEntry rfl (by decide) (by decide) rfl HO8.out.1 _ c rfl HR8.out (fun k hk e=>by have h1:=HO8.out.2.2;have z:=HB9.out.size;rcases h1 with h1 | h1;have h9:w5.heap.size≤k:=(Own.blk HO6.out k (h1.symm.trans e.symm)).1;omega;have e2:=Option.some.inj (h1.symm.trans e.symm);simp at e2;omega) (by have:=HKN.out;have:=HOL.out;simp only [List.length_append,List.length_take,List.length_cons,List.length_nil];omega) (by have h9:=HO8.out.2.1.size;simp at h9;show w5.heap.size≤_;omega) ?_;intro v9 w9 ho9 hg9 hv9;have HO9:=Lib.hid (And.intro ho9 hg9);clear ho9 hg9 hv9))
     obtain⟨g9,c9,ev9,ho9,hb9⟩:=ord_end (K:=0) (belowTwo HO.out.2.2.2 hz (Nat.le_refl _) HB9.out) HO6.out HB6.out HB7.out HO8.out.2.1 HO8.out.1 HO9.out.2 HO9.out.1 (fun k hk=>by
      have z9:=HB9.out.size
      have z8:=HO8.out.2.1.size
      simp at z8
      rcases hk with h | h | h
      ·rcases h with h | h | h
       ·rcases h with h | h
        ·exact h.1
        ·have h9:w5.heap.size≤k:=h;omega
       ·rcases h with h | h
        ·have:=h.1;omega
        ·omega
       ·simp at h;omega
      ·exact h.1
      ·omega) HKN.out HN.out
     have HEND:=Lib.hid (And.intro ho9 hb9)
     have HLO:=Lib.hid (show logOrder (l.take (n+1))=ordIn out E from by rw [logOrder_snoc l n hlt,← HOUT.out,← HE.out])
     rw [HOL.out] at ev9
     subst ev9
     clear ho9 hb9 HO9 HO8 HR8 HR7 HO6
     exact⟨⟨n+1,g9,c9,by omega,by go_num,rfl,by rw [HLO.out];exact HEND.out.1,HEND.out.2⟩,by simp [intOf];omega⟩
  ·obtain rfl:n=l.length:=by omega
   rw [List.take_length] at hO
   have HH:=Lib.hid (And.intro hO hb)
   have hlt':¬ ((l.length:Int)<l.length):=by omega
   clear hO hb hc hr
   go_wp2
   go_ret
   exact⟨gA,c,rfl,HH.out.1,HH.out.2⟩
end Go.Proofs.YtjacjafmimgfcaaGreat
