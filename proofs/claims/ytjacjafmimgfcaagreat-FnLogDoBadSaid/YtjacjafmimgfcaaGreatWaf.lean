/- Draws: a program is drawn. -/
import Derived.Deep.RegionHeld3
import Derived.Deep.RegionLaw
import Derived.Deep.DrawnRows
import Derived.Test.YtjacjafmimgfcaaGreatWad
import Derived.Test.YtjacjafmimgfcaaGreatWae
set_option linter.unusedVariables false
set_option linter.unusedSimpArgs false
namespace Go.Proofs.YtjacjafmimgfcaaGreat
open Go.RowKit
attribute [local go_sem ↓] Go.wp_at_zero Go.wp_at_succ
structure PAt (wo w:World) (g:Nat) (S:Nat→Prop) (A:Option Addr) (c:Nat) (bs:List Int) (f b2 bp:Nat) (vc vb:Value) (cs:List Int) (bds:List (List Act)):Prop where
 R:RdAt w g S A c bs f
 k:Keep (fun k=>k=g) wo w
 r2:w.heap[b2]?=some (.cells #[.slice none 0 0,.slice none 0 0] 39 (0,0))
 rp:w.heap[bp]?=some (.cells #[vc,vb] 39 (0,0))
 C:OwnI 3 w wo.heap.size vc cs
 B:Own (Kd.slice kAct) 116 w wo.heap.size (fun k=>wo.heap.size≤k∧k≠b2∧k≠bp∧vc.ownBlock≠some k) vb bds
 n2:wo.heap.size≤b2
 np:wo.heap.size≤bp
 n2p:b2≠bp
 nc:∀ k,vc.ownBlock=some k→k≠b2∧k≠bp
 gl:g<wo.heap.size
section
variable {wo w w':World}{g:Nat}{S:Nat→Prop}{A:Option Addr}{c:Nat}{bs:List Int}{f f' b2 bp:Nat}{vc vb v':Value}{cs cs':List Int}{bds bds':List (List Act)}
theorem PAt.less (h:PAt wo w g S A c bs f b2 bp vc vb cs bds)(hf:f'≤f):PAt wo w g S A c bs f' b2 bp vc vb cs bds:={ h with R:=h.R.less hf }
theorem PAt.pick (h:PAt wo w g S A c bs f b2 bp vc vb cs bds)(hR:RdAt w' g S A c bs f')(hk:Keep (fun k=>k=g) w w'):PAt wo w' g S A c bs f' b2 bp vc vb cs bds :=
 have hn:∀ k,wo.heap.size≤k→¬ k=g:=fun k hk=>by have:=h.gl;omega
 ⟨hR,h.k.trans hk,hk.blk h.r2 (hn _ h.n2),hk.blk h.rp (hn _ h.np),h.C.keep hk (fun k hc=>hn k (h.C.blk k hc).1),h.B.step (fun k hs hl=>hk.block k hl (hn k hs.1)),h.n2,h.np,h.n2p,h.nc,h.gl⟩
theorem PAt.below (h:PAt wo w g S A c bs f b2 bp vc vb cs bds)(hk:Below w.heap.size w w'):PAt wo w' g S A c bs f b2 bp vc vb cs bds:=h.pick (h.R.below hk) (Keep.of_belowAll _ hk)
theorem PAt.al (h:PAt wo w g S A c bs f b2 bp vc vb cs bds)(o:Obj):PAt wo (w.alloc o) g S A c bs f b2 bp vc vb cs bds:=h.below ((Below.refl _ _).alloc (Nat.le_refl _) _)
theorem PAt.c0 (h:PAt wo w g S A c bs f b2 bp vc vb cs bds):w.cell? ⟨bp,0,none⟩=some vc:=by rw [cell_of_row _ _ 0 _ _ _ h.rp];rfl
theorem PAt.c1 (h:PAt wo w g S A c bs f b2 bp vc vb cs bds):w.cell? ⟨bp,1,none⟩=some vb:=by rw [cell_of_row _ _ 1 _ _ _ h.rp];rfl
theorem PAt.setC (h:PAt wo w g S A c bs f b2 bp vc vb cs [])(hvb:vb=.slice none 0 0)(hg:w.grownBy w' vc.ownBlock)(hv:v'.ownBlock=vc.ownBlock∨v'.ownBlock=some w.heap.size)(ho:OwnI 3 w' wo.heap.size v' cs') :
  PAt wo (w'.setCell ⟨bp,0,none⟩ v') g S A c bs f b2 bp v' vb cs' []:=by
 subst hvb
 have hlp:bp<w.heap.size:=(Array.getElem?_eq_some_iff.1 h.rp).1
 have hl2:b2<w.heap.size:=(Array.getElem?_eq_some_iff.1 h.r2).1
 have hvc:=h.nc
 have hvl:=fun k hk=>(h.C.blk k hk)
 have hgl:=h.gl
 have hnp:=h.np
 have hn2:=h.n2
 have hn2p:=h.n2p
 have hne:∀ k,v'.ownBlock=some k→k≠b2∧k≠bp:=fun k hk=>by
  rcases hv with e | e
  ·exact hvc k (by rw [← e];exact hk)
  ·rw [e] at hk;injection hk with hk;omega
 have hk1:Keep (fun k=>vc.ownBlock=some k) w w':=Keep.of_grown hg fun k hk=>hk
 have hk2:Keep (fun k=>vc.ownBlock=some k∨k=bp) w (w'.setCell ⟨bp,0,none⟩ v'):=(hk1.mono (fun k hk=>.inl hk)).setCell (fun _=>.inr rfl) _
 refine⟨h.R.keep hk2 (fun hk=>?_) (fun k hs _ hk=>?_),h.k.then_ hk2 (fun i hi hk=>?_),hk2.blk h.r2 (fun hk=>?_),?_,ho.far (fun k hk=>(hne k hk).2) _,Own.nil _ _ _ _ _,hn2,hnp,hn2p,hne,hgl⟩
 ·rcases hk with hk | hk
  ·have:=hvl _ hk;omega
  ·omega
 ·have:=h.R.ne k hs
  rcases hk with hk | hk
  ·have:=hvl _ hk;omega
  ·omega
 ·rcases hk with hk | hk
  ·have:=hvl _ hk;omega
  ·omega
 ·rcases hk with hk | hk
  ·exact(hvc _ hk).1 rfl
  ·exact hn2p hk
 ·have:=hk1.blk h.rp (fun hk=>(hvc _ hk).2 rfl)
  simp [World.setCell,Array.getElem?_modify,this]
theorem PAt.b0 {gb n cab:Nat}(h:PAt wo w g S A c bs f b2 bp vc (.slice (some ⟨gb,0,none⟩) n cab) cs bds)(hn:0<bds.length):(∃ v,w.cell? ⟨gb,0,none⟩=some v)∧w.frozen? ⟨gb,0,none⟩=false:=by
 obtain⟨g',c',e,_⟩:=Own.place h.B hn
 injection e with e1 e2 e3
 have hB:=h.B
 subst e2
 obtain⟨c,⟨A',c'',rfl,_⟩,hc,hf⟩:=Own.cellAt hB (j:=0) hn
 exact⟨⟨_,hc 0 _ rfl⟩,hf 0⟩
theorem PAt.rpB (h:PAt wo w g S A c bs f b2 bp vc vb cs bds)(hg:w.grownBy w' vb.ownBlock):w'.heap[bp]?=some (.cells #[vc,vb] 39 (0,0)) :=
 (Keep.of_grown hg (T:=fun k=>vb.ownBlock=some k) fun k hk=>hk).blk h.rp (fun hk=>(h.B.blk _ hk).2.2.2.2.1 rfl)
theorem PAt.lts (h:PAt wo w g S A c bs f b2 bp vc vb cs bds):b2<w.heap.size∧bp<w.heap.size∧(∀ k,vc.ownBlock=some k→k<w.heap.size)∧(∀ k,vb.ownBlock=some k→k<w.heap.size) :=
 ⟨(Array.getElem?_eq_some_iff.1 h.r2).1,(Array.getElem?_eq_some_iff.1 h.rp).1,fun k hk=>(h.C.blk k hk).2,fun k hk=>(h.B.blk k hk).2.1⟩
theorem PAt.past (h:PAt wo w g S A c bs f b2 bp vc vb cs bds){k:Nat}(hk:w.heap.size≤k):wo.heap.size≤k∧k≠b2∧k≠bp∧vc.ownBlock≠some k:=by
 obtain⟨h1,h2,h3,_⟩:=h.lts
 have h4:=h.n2
 exact⟨by omega,by omega,by omega,fun e=>by have:=h3 k e;omega⟩
theorem PAt.setB (h:PAt wo w g S A c bs f b2 bp vc vb cs bds)(hg:w.grownBy w' vb.ownBlock)(ho:Own (Kd.slice kAct) 116 w' wo.heap.size (fun k=>wo.heap.size≤k∧k≠b2∧k≠bp∧vc.ownBlock≠some k) v' bds') :
  PAt wo (w'.setCell ⟨bp,1,none⟩ v') g S A c bs f b2 bp vc v' cs bds':=by
 have hvb:=fun k hk=>(h.B.blk k hk)
 have hgl:=h.gl
 have hnp:=h.np
 have hk1:Keep (fun k=>vb.ownBlock=some k) w w':=Keep.of_grown hg fun k hk=>hk
 have hk2:Keep (fun k=>vb.ownBlock=some k∨k=bp) w (w'.setCell ⟨bp,1,none⟩ v'):=(hk1.mono (fun k hk=>.inl hk)).setCell (fun _=>.inr rfl) _
 refine⟨h.R.keep hk2 (fun hk=>?_) (fun k hs _ hk=>?_),h.k.then_ hk2 (fun i hi hk=>?_),hk2.blk h.r2 (fun hk=>?_),?_,h.C.keep hk2 (fun k hk hT=>?_),ho.step (fun k hs hl=>Below.heap_setCell w' _ _ k hs.2.2.1),h.n2,hnp,h.n2p,h.nc,hgl⟩
 ·rcases hk with hk | hk
  ·have:=hvb _ hk;omega
  ·omega
 ·have:=h.R.ne k hs
  rcases hk with hk | hk
  ·have:=hvb _ hk;omega
  ·omega
 ·rcases hk with hk | hk
  ·have:=hvb _ hk;omega
  ·omega
 ·rcases hk with hk | hk
  ·exact(hvb _ hk).2.2.2.1 rfl
  ·exact h.n2p hk
 ·have:=hk1.blk h.rp (fun hk=>(hvb _ hk).2.2.2.2.1 rfl)
  simp [World.setCell,Array.getElem?_modify,this]
 ·rcases hT with hT | hT
  ·exact(hvb _ hT).2.2.2.2.2 hk
  ·exact(h.nc k hk).2 hT
theorem PAt.rpG (h:PAt wo w g S A c bs f b2 bp vc vb cs bds)(hg:w.grownBy w' vc.ownBlock):w'.heap[bp]?=some (.cells #[vc,vb] 39 (0,0)) :=
 (Keep.of_grown hg (T:=fun k=>vc.ownBlock=some k) fun k hk=>hk).blk h.rp (fun hk=>(h.nc _ hk).2 rfl)
end
theorem bal {w w':World}(h:Below w.heap.size w w')(o:Obj):Below w.heap.size w (w'.alloc o):=h.alloc h.size o
theorem rowC {wo w:World}{g:Nat}{S:Nat→Prop}{A:Option Addr}{c:Nat}{bs:List Int}{f b2 bp:Nat}{vb:Value}{C:Option Addr}{n cc:Nat}{cs:List Int}{bds:List (List Act)}(h:PAt wo w g S A c bs f b2 bp (.slice C n cc) vb cs bds):Row Kd.int w (fun k=>wo.heap.size≤k) C cs:=by
 obtain⟨C',c',e,_,hr⟩:=OwnI.row h.C
 injection e with e1 e2 e3
 subst e1
 exact hr.mono fun k hk=>(h.C.blk k hk).1
theorem rowB {wo w:World}{g:Nat}{S:Nat→Prop}{A:Option Addr}{c:Nat}{bs:List Int}{f b2 bp:Nat}{vc:Value}{C:Option Addr}{n cc:Nat}{cs:List Int}{bds:List (List Act)}(h:PAt wo w g S A c bs f b2 bp vc (.slice C n cc) cs bds):Row (Kd.slice kAct) w (fun k=>wo.heap.size≤k∧k≠b2∧k≠bp∧vc.ownBlock≠some k) C bds:=by
 obtain⟨C',c',e,_,hr⟩:=Own.row h.B
 injection e with e1 e2 e3
 subst e1
 exact hr
def arr5:Obj:=.cells #[.int .i64 0,.int .i64 0,.int .i64 1,.int .i64 5,.int .i64 99] 3
theorem nums5 {w:World}{b:Nat}{t:TypeId}(h:w.heap[b]?=some (.cells #[.int .i64 0,.int .i64 0,.int .i64 1,.int .i64 5,.int .i64 99] t (0,0)))(j:Nat)(hj:j<5):∃ y:Int,w.cell? ⟨b,j,none⟩=some (.int .i64 y)∧0≤y∧y≤99:=by
 rw [cell_of_row _ _ j _ _ _ h]
 match j,hj with
 | 0,_=>exact⟨0,rfl,by omega,by omega⟩
 | 1,_=>exact⟨0,rfl,by omega,by omega⟩
 | 2,_=>exact⟨1,rfl,by omega,by omega⟩
 | 3,_=>exact⟨5,rfl,by omega,by omega⟩
 | 4,_=>exact⟨99,rfl,by omega,by omega⟩
theorem nums5_new (w:World)(j:Nat)(hj:j<5):∃ y:Int,(w.alloc (.cells #[.int .i64 0,.int .i64 0,.int .i64 1,.int .i64 5,.int .i64 99] 3)).cell? ⟨w.heap.size,j,none⟩=some (.int .i64 y)∧0≤y∧y≤99:=nums5 (heap_alloc_new w _) j hj
theorem Row.one_at {α:Type}{d:Kd α}{e:Nat}{w:World}{S:Nat→Prop}{x:α}{cs:List Value}(b:Nat)(h:d.K w S x cs)(hb:b=w.heap.size):Row d (w.alloc (.cells cs.toArray e)) (fun k=>S k∨k=b) (some ⟨b,0,none⟩) [x]:=by
 subst hb
 exact Row.one_ h
def newProg (ok:Prog→Prop) (B:Nat) (v:Value) (w':World):Prop :=
 ∃ (p:Prog) (C D:Option Addr) (cc cd:Nat),v=.agg #[.slice C p.cells.length cc,.slice D p.bodies.length cd]∧p.cells.length≤cc∧p.bodies.length≤cd∧Row Kd.int w' (fun k=>B≤k) C p.cells∧Row (Kd.slice kAct) w' (fun k=>B≤k) D p.bodies∧ok p
theorem Keep.set2 {w w':World}{b:Nat}(h:Keep (fun k=>k=b) w w')(i j:Nat)(u v:Value):Keep (fun k=>k=b) w ((w'.setCell ⟨b,i,none⟩ u).setCell ⟨b,j,none⟩ v) :=
 Keep.setCell (T:=fun k=>k=b) (p:=⟨b,j,none⟩) (Keep.setCell (T:=fun k=>k=b) (p:=⟨b,i,none⟩) h (fun _=>rfl) u) (fun _=>rfl) v
theorem Row.inBlock {α:Type}{d:Kd α}{e:Nat}{w:World}{S:Nat→Prop}{xs:List α}{b:Nat}{cs:Array Value}(hb:w.heap[b]?=some (.cells cs e (0,0)))(hs:S b)(hm:xs.length≤9223372036854775807)
  (h:∀ j x,xs[j]?=some x→∃ c,d.K w S x c∧∀ i u,c[i]?=some u→cs[j*d.sz+i]?=some u):Row d w S (some ⟨b,0,none⟩) xs:=by
 refine⟨hm,fun _=>⟨_,rfl,hs,(Array.getElem?_eq_some_iff.1 hb).1,fun j x hj=>?_⟩⟩
 obtain⟨c,hk,hc⟩:=h j x hj
 exact⟨c,hk,fun i u hu=>World.news_of_block hb (j*d.sz+i) u (by simpa using hc i u hu)⟩
theorem row_two {w:World}{S:Nat→Prop}{b:Nat}{e:Nat}{x y:Int}(hb:w.heap[b]?=some (.cells #[.int .i64 x,.int .i64 y] e (0,0)))(hs:S b)(hx:i64 x)(hy:i64 y):Row Kd.int w S (some ⟨b,0,none⟩) [x,y]:=by
 refine Row.inBlock hb hs (by simp) fun j z hj=>?_
 match j with
 | 0=>injection hj with hj;subst hj;refine⟨_,⟨rfl,hx⟩,fun i u hu=>?_⟩;match i with | 0=>exact hu | i+1=>simp at hu
 | 1=>injection hj with hj;subst hj;refine⟨_,⟨rfl,hy⟩,fun i u hu=>?_⟩;match i with | 0=>exact hu | i+1=>simp at hu
 | j+2=>simp at hj
theorem row_oneI {w:World}{S:Nat→Prop}{b:Nat}{e:Nat}{x:Int}(hb:w.heap[b]?=some (.cells #[.int .i64 x] e (0,0)))(hs:S b)(hx:i64 x):Row Kd.int w S (some ⟨b,0,none⟩) [x]:=by
 refine Row.inBlock hb hs (by simp) fun j z hj=>?_
 match j with
 | 0=>injection hj with hj;subst hj;refine⟨_,⟨rfl,hx⟩,fun i u hu=>?_⟩;match i with | 0=>exact hu | i+1=>simp at hu
 | j+1=>simp at hj
theorem row_acts2 {w:World}{S:Nat→Prop}{b:Nat}{e:Nat}{a1 a2:Act}{u0 u1 u2 u3 t0 t1 t2 t3:Value}(hb:w.heap[b]?=some (.cells #[u0,u1,u2,u3,t0,t1,t2,t3] e (0,0)))(hs:S b)(h1:kAct.K w S a1 [u0,u1,u2,u3])(h2:kAct.K w S a2 [t0,t1,t2,t3]):Row kAct w S (some ⟨b,0,none⟩) [a1,a2]:=by
 refine Row.inBlock hb hs (by simp) fun j z hj=>?_
 match j with
 | 0=>injection hj with hj;subst hj;refine⟨_,h1,fun i u hu=>?_⟩;match i with | 0 | 1 | 2 | 3=>exact hu | i+4=>simp at hu
 | 1=>injection hj with hj;subst hj;refine⟨_,h2,fun i u hu=>?_⟩;match i with | 0 | 1 | 2 | 3=>exact hu | i+4=>simp at hu
 | j+2=>simp at hj
theorem row_acts1 {w:World}{S:Nat→Prop}{b:Nat}{e:Nat}{a1:Act}{u0 u1 u2 u3:Value}(hb:w.heap[b]?=some (.cells #[u0,u1,u2,u3] e (0,0)))(hs:S b)(h1:kAct.K w S a1 [u0,u1,u2,u3]):Row kAct w S (some ⟨b,0,none⟩) [a1]:=by
 refine Row.inBlock hb hs (by simp) fun j z hj=>?_
 match j with
 | 0=>injection hj with hj;subst hj;refine⟨_,h1,fun i u hu=>?_⟩;match i with | 0 | 1 | 2 | 3=>exact hu | i+4=>simp at hu
 | j+1=>simp at hj
theorem row_deeds3 {w:World}{S:Nat→Prop}{b:Nat}{e:Nat}(hb:w.heap[b]?=some (.cells #[.int .i64 1,.int .i64 0,.int .i64 0,.int .i64 4,.int .i64 0,.int .i64 0,.int .i64 2,.int .i64 0,.int .i64 0] e (0,0)))(hs:S b):Row kDeed w S (some ⟨b,0,none⟩) [⟨1,0,0⟩,⟨4,0,0⟩,⟨2,0,0⟩]:=by
 have z:∀ n:Int,0≤n→n≤10→i64 n:=fun n h1 h2=>by unfold i64;omega
 refine Row.inBlock hb hs (by simp) fun j x hj=>?_
 match j with
 | 0=>injection hj with hj;subst hj;refine⟨_,isDeed_K _ ⟨z _ (by simp) (by simp),z _ (by simp) (by simp),z _ (by simp) (by simp)⟩,fun i u hu=>?_⟩;match i with | 0 | 1 | 2=>exact hu | i+3=>simp at hu
 | 1=>injection hj with hj;subst hj;refine⟨_,isDeed_K _ ⟨z _ (by simp) (by simp),z _ (by simp) (by simp),z _ (by simp) (by simp)⟩,fun i u hu=>?_⟩;match i with | 0 | 1 | 2=>exact hu | i+3=>simp at hu
 | 2=>injection hj with hj;subst hj;refine⟨_,isDeed_K _ ⟨z _ (by simp) (by simp),z _ (by simp) (by simp),z _ (by simp) (by simp)⟩,fun i u hu=>?_⟩;match i with | 0 | 1 | 2=>exact hu | i+3=>simp at hu
 | j+3=>simp at hj
theorem row_bodies2 {w:World}{S:Nat→Prop}{b:Nat}{e:Nat}{A1 A2:Option Addr}{c1 c2:Nat}{x y:List Act}(hb:w.heap[b]?=some (.cells #[.slice A1 x.length c1,.slice A2 y.length c2] e (0,0)))(hs:S b)(h1:Row kAct w S A1 x)(h2:Row kAct w S A2 y)(hc1:x.length≤c1)(hc2:y.length≤c2):Row (Kd.slice kAct) w S (some ⟨b,0,none⟩) [x,y]:=by
 refine Row.inBlock hb hs (by simp) fun j z hj=>?_
 match j with
 | 0=>injection hj with hj;subst hj;refine⟨_,⟨A1,c1,rfl,hc1,h1⟩,fun i u hu=>?_⟩;match i with | 0=>exact hu | i+1=>simp at hu
 | 1=>injection hj with hj;subst hj;refine⟨_,⟨A2,c2,rfl,hc2,h2⟩,fun i u hu=>?_⟩;match i with | 0=>exact hu | i+1=>simp at hu
 | j+2=>simp at hj
theorem PAt.setB0 {wo w:World}{g:Nat}{S:Nat→Prop}{A:Option Addr}{c:Nat}{bs:List Int}{f b2 bp gb cab:Nat}{vc:Value}{cs:List Int}{bds:List (List Act)}(h:PAt wo w g S A c bs f b2 bp vc (.slice (some ⟨gb,0,none⟩) bds.length cab) cs bds)(hl:0<bds.length)(y:List Act){A':Option Addr}{c':Nat}
  (hA:Row kAct w (fun k=>(wo.heap.size≤k∧k≠b2∧k≠bp∧vc.ownBlock≠some k)∧k≠gb) A' y) (hc:y.length≤c'):PAt wo (w.setCell ⟨gb,0,none⟩ (.slice A' y.length c')) g S A c bs f b2 bp vc (.slice (some ⟨gb,0,none⟩) (bds.set 0 y).length cab) cs (bds.set 0 y):=by
 obtain⟨hb1,hb2,hb3⟩:=h.B.blk gb rfl
 have hk:Keep (fun k=>k=gb) w (w.setCell ⟨gb,0,none⟩ (.slice A' y.length c')):=Keep.setCell (T:=fun k=>k=gb) (p:=⟨gb,0,none⟩) (Keep.refl _ _) (fun _=>rfl) _
 have hgl:=h.gl
 have hB:=Own.setAt h.B hl (i:=0) (by decide) (.slice A' y.length c') y (fun c hc'=>⟨A',c',by obtain⟨_,_,rfl,_⟩:=hc';rfl,hc,hA⟩)
 simp only [kSlice_sz,Nat.zero_mul,Nat.add_zero] at hB
 rw [List.length_set]
 exact⟨h.R.keep hk (by omega) (fun k hs _=>by have:=h.R.ne k hs;omega),h.k.then_ hk (fun i hi e=>by omega),hk.blk h.r2 (fun e=>hb3.2.1 e.symm),hk.blk h.rp (fun e=>hb3.2.2.1 e.symm),h.C.keep hk (fun k hk e=>hb3.2.2.2 (by rw [← e];exact hk)),hB,h.n2,h.np,h.n2p,h.nc,h.gl⟩
def fallProg:Prog:=⟨[1],[[⟨2,[],[1,1],0⟩],[⟨1,[⟨1,0,0⟩,⟨4,0,0⟩,⟨2,0,0⟩],[],0⟩]]⟩
theorem fall_ok:progOk fallProg=true∧1≤fallProg.cells.length:=by decide
theorem fall_rows {w w':World}{e1 e2 e3 e4 e5 e6:Nat}{B:Nat}(hB:B≤w.heap.size)
  (h0:w'.heap[w.heap.size]?=some (.cells #[.int .i64 1] e1 (0,0))) (h1:w'.heap[w.heap.size+1]?=some (.cells #[.int .i64 1,.int .i64 1] e2 (0,0)))
  (h2:w'.heap[w.heap.size+1+1]?=some (.cells #[.int .i64 2,.slice none 0 0,.slice (some ⟨w.heap.size+1,0,none⟩) 2 2,.int .i64 0] e3 (0,0)))
  (h3:w'.heap[w.heap.size+1+1+1]?=some (.cells #[.int .i64 1,.int .i64 0,.int .i64 0,.int .i64 4,.int .i64 0,.int .i64 0,.int .i64 2,.int .i64 0,.int .i64 0] e4 (0,0)))
  (h4:w'.heap[w.heap.size+1+1+1+1]?=some (.cells #[.int .i64 1,.slice (some ⟨w.heap.size+1+1+1,0,none⟩) 3 3,.slice none 0 0,.int .i64 0] e5 (0,0)))
  (h5:w'.heap[w.heap.size+1+1+1+1+1]?=some (.cells #[.slice (some ⟨w.heap.size+1+1,0,none⟩) 1 1,.slice (some ⟨w.heap.size+1+1+1+1,0,none⟩) 1 1] e6 (0,0))) :
  newProg (fun p=>progOk p=true∧1≤p.cells.length) B (.agg #[.slice (some ⟨w.heap.size,0,none⟩) 1 1,.slice (some ⟨w.heap.size+1+1+1+1+1,0,none⟩) 2 2]) w':=by
 have z:i64 1:=by unfold i64;omega
 have r1:Row Kd.int w' (fun k=>B≤k) (some ⟨w.heap.size+1,0,none⟩) [1,1]:=row_two h1 (by omega) z z
 have r2:Row kAct w' (fun k=>B≤k) (some ⟨w.heap.size+1+1,0,none⟩) [⟨2,[],[1,1],0⟩]:=row_acts1 h2 (by omega) (act_K_kids [1,1] (Nat.le_refl _) r1)
 have r3:Row kDeed w' (fun k=>B≤k) (some ⟨w.heap.size+1+1+1,0,none⟩) _:=row_deeds3 h3 (by omega)
 have r4:Row kAct w' (fun k=>B≤k) (some ⟨w.heap.size+1+1+1+1,0,none⟩) [⟨1,[⟨1,0,0⟩,⟨4,0,0⟩,⟨2,0,0⟩],[],0⟩]:=row_acts1 h4 (by omega) (act_K_deeds [⟨1,0,0⟩,⟨4,0,0⟩,⟨2,0,0⟩] (Nat.le_refl _) r3)
 exact⟨fallProg,_,_,1,2,rfl,by decide,by decide,row_oneI h0 hB z,row_bodies2 h5 (by omega) r2 r4 (by decide) (by decide),fall_ok⟩
theorem PAt.done {wo w:World}{g:Nat}{S:Nat→Prop}{A:Option Addr}{c:Nat}{bs:List Int}{f b2 bp:Nat}{C D:Option Addr}{cc cd:Nat}{cs:List Int}{bds:List (List Act)}(h:PAt wo w g S A c bs f b2 bp (.slice C cs.length cc) (.slice D bds.length cd) cs bds)(u1 u2:Value)(ok:Prog→Prop)(hok:ok ⟨cs,bds⟩) :
  Drew (newProg ok wo.heap.size) wo g S A c bs f (.returned (.agg #[.slice C cs.length cc,.slice D bds.length cd])) ((w.setCell ⟨b2,0,none⟩ u1).setCell ⟨b2,1,none⟩ u2):=by
 have hgl:=h.gl
 have hn2:=h.n2
 have hk:Keep (fun k=>k=b2) w ((w.setCell ⟨b2,0,none⟩ u1).setCell ⟨b2,1,none⟩ u2):=Keep.set2 (Keep.refl _ _) 0 1 u1 u2
 obtain⟨C',c',e1,hc1,hr1⟩:=OwnI.row h.C
 injection e1 with e1 _ e2;subst e1;subst e2
 obtain⟨D',d',e1,hc2,hr2⟩:=Own.row h.B
 injection e1 with e1 _ e2;subst e1;subst e2
 refine⟨_,rfl,⟨⟨cs,bds⟩,_,_,_,_,rfl,hc1,hc2,?_,?_,hok⟩,h.R.keep hk (by omega) (fun k hs _=>by have:=h.R.ne k hs;omega),h.k.then_ hk (fun i hi e=>by omega)⟩
 ·exact(hr1.keep hk (fun k hs _=>(h.nc k hs).1)).mono fun k hk=>(h.C.blk k hk).1
 ·exact(hr2.keep hk (fun k hs _=>hs.2.1)).mono fun k hk=>hk.1
set_option maxHeartbeats 16000000 in
set_option maxRecDepth 100000 in
theorem l71Prog_calls (w:World)(g:Nat)(S:Nat→Prop)(A:Option Addr)(c:Nat)(bs:List Int)(f:Nat)(hR:RdAt w g S A c bs (f+10000)) :
  Calls Tryz.prog 99 #[.pointer (some ⟨g,0,none⟩)] w (Drew (newProg (fun p=>progOk p=true∧1≤p.cells.length) w.heap.size) w g S A c bs f):=by
 have hgl:=hR.lt
 obtain⟨wo,rfl⟩:∃ wo,wo=w:=⟨_,rfl⟩
 have hR0:=fun o=>Lib.hid (hR.below (w':=wo.alloc o) (by repeat (first | exact Below.refl _ _ | (refine Below.alloc ?_ (by simp) _) | (refine Below.setCell ?_ (by simp) _) | (refine below_drewN' ?_ _) | (refine Below.drew ?_))))
 clear hR
 go_enter Tryz.func99,Tryz.ntmps99
 go_wp2
 go_loopw [3,4,5,6,7,8] (fun i _ _ _ _ _ wr=>∃ j:Nat,j≤10∧i=.int .i64 j∧RdAt wr g S A c bs (f+1000*(10-j))∧Keep (fun k=>k=g) wo wr∧wr.heap[wo.heap.size]?=some (.cells #[.slice none 0 0,.slice none 0 0] 39 (0,0))) (fun i _ _ _ _ _ _=>10-(intOf i).toNat)
 case atStart=>exact⟨0,by omega,rfl,(hR0 _).out,(Keep.refl _ _).alloc _,heap_alloc_new _ _⟩
 case round =>
  obtain⟨j,hj,rfl,hRr,hkr,hb2⟩:=hrel
  have hwr:=hkr.size
  by_cases hlt:j<10
  ·have hRs:=Lib.hid (hRr.less (f':=f+1000*(10-(j+1))+1000) (by omega))
   have hb2l:wo.heap.size<wr.heap.size:=(Array.getElem?_eq_some_iff.1 hb2).1
   clear hRr
   generalize hF:f+1000*(10-(j+1))=F at *
   have HF:=Lib.hid hF
   clear hF
   have hP0:PAt wo ((wr.alloc (.cells #[] 3)).alloc (.cells #[.slice (some ⟨wr.heap.size,0,none⟩) 0 0,.slice none 0 0] 39)) g S A c bs (F+1000) wo.heap.size (wr.heap.size+1) (.slice (some ⟨wr.heap.size,0,none⟩) 0 0) (.slice none 0 0) [] []:=by
    have hbb:Below wr.heap.size wr ((wr.alloc (.cells #[] 3)).alloc (.cells #[.slice (some ⟨wr.heap.size,0,none⟩) 0 0,.slice none 0 0] 39)):=(by repeat (first | exact Below.refl _ _ | (refine Below.alloc ?_ (by simp) _) | (refine Below.setCell ?_ (by simp) _) | (refine below_drewN' ?_ _) | (refine Below.drew ?_)))
    refine⟨hRs.out.below hbb,hkr.then_ (Keep.of_belowAll (fun _=>False) hbb) (fun _ _ h=>h.elim),?_,?_,(ownI_empty _ _ _ hwr).al _,Own.nil _ _ _ _ _,Nat.le_refl _,by omega,by omega,fun k hk=>?_,hgl⟩
    ·exact(hbb.block _ hb2l).trans hb2
    ·have:=heap_alloc_new (wr.alloc (.cells #[] 3)) (.cells #[.slice (some ⟨wr.heap.size,0,none⟩) 0 0,.slice none 0 0] 39)
     simpa using this
    ·simp [Value.ownBlock] at hk;omega
   go_wp2_with (go_at_call 64;(refine(pick_calls _ _ _ _ _ _ _ _ hP0.R (by omega)).mono ?_;rintro e w1 ⟨n,rfl,hn0,hn1,hRn,hk⟩;have hP1:=hP0.pick hRn hk;clear hRn hk))
   obtain⟨n,rfl⟩:=Int.eq_ofNat_of_zero_le hn0
   have hn3:n<3:=by omega
   obtain⟨wi,rfl⟩:∃ wi,wi=wr:=⟨_,rfl⟩
   have hP2:=Lib.hid (hP1.less (f':=F+994) (by omega))
   clear hn0 hn1 hP0 hP1 hb2 hRs hR0 hkr hlt hb2l hwr hj
   go_loopw [6] (fun i wr=>∃ (k:Nat) (vc:Value) (cs:List Int),i=.int .i64 k∧k≤1+n∧cs.length=k∧PAt wo wr g S A c bs (F+990-2*k) wo.heap.size (wi.heap.size+1) vc (.slice none 0 0) cs []) (fun i _=>1+n-(intOf i).toNat)
   case atStart=>exact⟨0,_,[],rfl,by omega,rfl,hP2.out.less (by omega)⟩
   case round =>
    obtain⟨k,vc,cs,rfl,hk3,hcl,hP⟩:=hrel
    clear hP2
    by_cases hkl:k<1+n
    ·have hkl2:(k:Int)<1+(n:Int):=by omega
     have hPc:=hP.less (f':=F+988-2*k+1) (by omega)
     have HCL:=Lib.hid hcl
     have HKL:=Lib.hid hkl
     have q1:=hPc.c0
     have hblk:=heap_alloc_new wr arr5
     unfold arr5 at hblk
     have hgr:=Nat.lt_of_lt_of_le hgl hPc.k.size
     clear hcl hkl hP
     go_wp2_with fail
     have hbl:=(Array.getElem?_eq_some_iff.1 hPc.rp).1
     refine wp_region_noPanic ?_
     refine wp_region_held_drew (S:=(fun w'=>True)) (by kernel_rfl) (by (try dsimp only)<;>(trivial)) (fun hHeld=>?_)
     refine wpAnyH_take (i:=0) (v:=_) rfl (by kernel_rfl) (by kernel_rfl) (by kernel_rfl) (fun _ _ _ h=>h) (Or.inl ⟨by rfl,by (intro w hSw;(try dsimp only at hSw);go_simp<;>with_reducible rfl)⟩) (by assumption) ?_
     (try simp only [q1,q2,q3,Act.put,q4,q5,q6])
     refine wpAnyH_take (i:=3) (v:=_) rfl (by kernel_rfl) (by kernel_rfl) (by kernel_rfl) (fun _ _ _ h=>h) (Or.inl ⟨by rfl,by (intro w hSw;(try dsimp only at hSw);go_simp<;>with_reducible rfl)⟩) (by assumption) ?_
     (try simp only [q1,q2,q3,Act.put,q4,q5,q6])
     refine wpAnyH_ready (rs:=[1,2,4]) (by kernel_rfl) (by simp) ?_
     refine AllReadyH.cons rfl (fun Kq hKq=>?_) ?_
     ·(try simp only [q1,q2,q3])
      refine step_fold (a:=⟨_,_⟩) ?_
      go_simp
      refine hKq.out _ _ (by (try dsimp only)<;>(trivial)) (fun hHeld=>?_)
      clear hKq Kq
      (try simp only [q1,q2,q3,Act.put,q4,q5,q6])
      refine wpAnyH_ready (rs:=[2,4]) (by kernel_rfl) (by simp) ?_
      refine AllReadyH.cons rfl (fun Kq hKq=>?_) ?_
      ·(try simp only [q1,q2,q3])
       refine step_fold (a:=⟨_,_⟩) ?_
       go_simp
       refine hKq.out _ _ (by (try dsimp only)<;>(trivial)) (fun hHeld=>?_)
       clear hKq Kq
       (try simp only [q1,q2,q3,Act.put,q4,q5,q6])
       refine wpAnyH_ready (rs:=[4]) (by kernel_rfl) (by simp) ?_
       refine AllReadyH.cons rfl (fun Kq hKq=>?_) ?_
       ·(try simp only [q1,q2,q3])
        refine step_fold (a:=⟨_,_⟩) ?_
        go_simp
        first | (go_at_call 64;refine(pick_calls _ _ _ _ _ _ _ _ (PAt.R (PAt.below hPc (by repeat' first | exact Below.refl _ _ | apply Below.drew | refine bal ?_ _))) (by omega)).mono ?_;rintro e w1 ⟨x,rfl,hx0,hx1,hRn,hk⟩;obtain⟨x,rfl⟩:=Int.eq_ofNat_of_zero_le hx0;have hx5:x<5:=(by omega);have hP1:=PAt.pick (PAt.below hPc (by repeat' first | exact Below.refl _ _ | apply Below.drew | refine bal ?_ _)) hRn hk;obtain⟨y,hy,hy0,hy1⟩:=nums5 (hk.blk hblk (by omega)) x hx5;have hy':=Lib.hid hy;clear hy;have hy:=hy'.out;clear hy';have q3:=hP1.c0;have hbl1:=(Array.getElem?_eq_some_iff.1 hP1.rp).1;have hxi:(0:Int)≤(x:Int):=(by omega);have hxj:(x:Int)<5:=(by omega);clear hRn hk hx0 hx1) | (go_at_call 64;refine(pick_calls _ _ _ _ _ _ _ _ (PAt.R (PAt.below hPc (by repeat' first | exact Below.refl _ _ | apply Below.drew | refine bal ?_ _))) (by omega)).mono ?_;rintro e w1 ⟨x,rfl,hx0,hx1,hRn,hk⟩;obtain⟨x,rfl⟩:=Int.eq_ofNat_of_zero_le hx0;have hx5:x<5:=(by omega);have hP1:=PAt.pick (PAt.below hPc (by repeat' first | exact Below.refl _ _ | apply Below.drew | refine bal ?_ _)) hRn hk;obtain⟨y,hy,hy0,hy1⟩:=nums5_new w1 x hx5;have q3:=hP1.c0;have hbl1:=(Array.getElem?_eq_some_iff.1 hP1.rp).1;have q4:∀ o1 o2,((w1.alloc o1).alloc o2).cell? ⟨wi.heap.size+1,0,none⟩=some vc:=(fun o1 o2=>((bal (bal (Below.refl _ _) o1) o2).cell hbl1).trans q3);have hxi:(0:Int)≤(x:Int):=(by omega);have hxj:(x:Int)<5:=(by omega);clear hRn hk hx0 hx1)
        refine hKq.out _ _ (by (try dsimp only)<;>(trivial)) (fun hHeld=>?_)
        clear hKq Kq
        (try simp only [q1,q2,q3,Act.put,q4,q5,q6])
        refine wpAnyH_take (i:=5) (v:=_) rfl (by kernel_rfl) (by kernel_rfl) (by kernel_rfl) (fun _ _ _ h=>h) (Or.inl ⟨by rfl,by (intro w hSw;(try dsimp only at hSw);go_simp<;>with_reducible rfl)⟩) (by assumption) ?_
        (try simp only [q1,q2,q3,Act.put,q4,q5,q6])
        refine wpAnyH_ready (rs:=[6]) (by kernel_rfl) (by simp) ?_
        refine AllReadyH.cons rfl (fun Kq hKq=>?_) ?_
        ·(try simp only [q1,q2,q3])
         refine step_fold (a:=⟨_,_⟩) ?_
         go_simp
         refine hKq.out _ _ (by (try dsimp only)<;>(trivial)) (fun hHeld=>?_)
         clear hKq Kq
         (try simp only [q1,q2,q3,Act.put,q4,q5,q6])
         refine wpAnyH_ready (rs:=[7]) (by kernel_rfl) (by simp) ?_
         refine AllReadyH.cons rfl (fun Kq hKq=>?_) ?_
         ·(try simp only [q1,q2,q3])
          refine step_fold (a:=⟨_,_⟩) ?_
          go_simp
          refine hKq.out _ _ (by (try dsimp only)<;>(trivial)) (fun hHeld=>?_)
          clear hKq Kq
          (try simp only [q1,q2,q3,Act.put,q4,q5,q6])
          refine wpAnyH_ready (rs:=[8]) (by kernel_rfl) (by simp) ?_
          refine AllReadyH.cons rfl (fun Kq hKq=>?_) ?_
          ·(try simp only [q1,q2,q3])
           refine step_fold (a:=⟨_,_⟩) ?_
           ((refine step_append_kd (d:=Kd.int) (by rfl) _ _ _ (by rfl) Tryz.underlying22 _ 8 infoInt rfl (by decide) (by decide) (by rfl) (OwnI.belowAll hP1.C (by repeat' first | exact Below.refl _ _ | apply Below.drew | refine bal ?_ _)) _ _ (by rfl) (Row.one_at (d:=Kd.int) (e:=3) (S:=fun _=>False) (x:=y) _ ⟨rfl,by omega,by omega⟩ (by simp)) (fun k hk e=>by have:=hP1.C.blk k e.symm;rcases hk with hk | hk;exact hk;first | omega | (simp at hk;omega)) (by have:=HCL.out;have:=HKL.out;simp;omega) (by have:=hP1.k.size;simp;omega) ?_;intro v2 w2 ho2 hg2 hv2;have hrp:=PAt.rpG (PAt.below hP1 (by repeat' first | exact Below.refl _ _ | apply Below.drew | refine bal ?_ _)) hg2;have q5:=cell_of_row _ _ 0 _ _ _ hrp;have q6:=froz_ hrp;have hP2:=PAt.setC (PAt.below hP1 (by repeat' first | exact Below.refl _ _ | apply Below.drew | refine bal ?_ _)) rfl hg2 hv2 (OwnI.of ho2);simp at q5;obtain⟨Ac,cc,rfl,hcc,hrc⟩:=Own.row ho2;clear hrc))
           refine hKq.out _ _ (by (try dsimp only)<;>(trivial)) (fun hHeld=>?_)
           clear hKq Kq
           (try simp only [q1,q2,q3,Act.put,q4,q5,q6])
           refine wpAnyH_take (i:=9) (v:=_) rfl (by kernel_rfl) (by kernel_rfl) (by kernel_rfl) (fun _ _ _ h=>h) (Or.inl ⟨by rfl,by (intro w hSw;(try dsimp only at hSw);go_simp<;>with_reducible rfl)⟩) (by assumption) ?_
           (try simp only [q1,q2,q3,Act.put,q4,q5,q6])
           refine wpAnyH_ready (rs:=[10]) (by kernel_rfl) (by simp) ?_
           refine AllReadyH.cons rfl (fun Kq hKq=>?_) ?_
           ·(try simp only [q1,q2,q3])
            refine step_fold (a:=⟨_,_⟩) ?_
            go_simp
            refine hKq.out _ _ (by (try dsimp only)<;>(trivial)) (fun hHeld=>?_)
            clear hKq Kq
            (try simp only [q1,q2,q3,Act.put,q4,q5,q6])
            refine wpAnyH_done (by kernel_rfl) ?_ _
            refine NoPanic.normal ?_
            have hP9:=hP2.less (f':=F+990-2*(k+1)) (by omega)
            simp only [List.length_append,List.length_cons,List.length_nil,Nat.zero_add] at hP9
            go_wp2
            exact⟨⟨k+1,_,cs ++ [y],by go_num,by have:=HKL.out;omega,by have:=HCL.out;simp;omega,hP9⟩,by have:=HKL.out;simp [intOf];omega⟩
           exact AllReadyH.nil
          exact AllReadyH.nil
         exact AllReadyH.nil
        exact AllReadyH.nil
       exact AllReadyH.nil
      refine AllReadyH.cons rfl (fun Kq hKq=>?_) ?_
      ·(try simp only [q1,q2,q3])
       refine step_fold (a:=⟨_,_⟩) ?_
       go_simp
       first | (go_at_call 64;refine(pick_calls _ _ _ _ _ _ _ _ (PAt.R (PAt.below hPc (by repeat' first | exact Below.refl _ _ | apply Below.drew | refine bal ?_ _))) (by omega)).mono ?_;rintro e w1 ⟨x,rfl,hx0,hx1,hRn,hk⟩;obtain⟨x,rfl⟩:=Int.eq_ofNat_of_zero_le hx0;have hx5:x<5:=(by omega);have hP1:=PAt.pick (PAt.below hPc (by repeat' first | exact Below.refl _ _ | apply Below.drew | refine bal ?_ _)) hRn hk;obtain⟨y,hy,hy0,hy1⟩:=nums5 (hk.blk hblk (by omega)) x hx5;have hy':=Lib.hid hy;clear hy;have hy:=hy'.out;clear hy';have q3:=hP1.c0;have hbl1:=(Array.getElem?_eq_some_iff.1 hP1.rp).1;have hxi:(0:Int)≤(x:Int):=(by omega);have hxj:(x:Int)<5:=(by omega);clear hRn hk hx0 hx1) | (go_at_call 64;refine(pick_calls _ _ _ _ _ _ _ _ (PAt.R (PAt.below hPc (by repeat' first | exact Below.refl _ _ | apply Below.drew | refine bal ?_ _))) (by omega)).mono ?_;rintro e w1 ⟨x,rfl,hx0,hx1,hRn,hk⟩;obtain⟨x,rfl⟩:=Int.eq_ofNat_of_zero_le hx0;have hx5:x<5:=(by omega);have hP1:=PAt.pick (PAt.below hPc (by repeat' first | exact Below.refl _ _ | apply Below.drew | refine bal ?_ _)) hRn hk;obtain⟨y,hy,hy0,hy1⟩:=nums5_new w1 x hx5;have q3:=hP1.c0;have hbl1:=(Array.getElem?_eq_some_iff.1 hP1.rp).1;have q4:∀ o1 o2,((w1.alloc o1).alloc o2).cell? ⟨wi.heap.size+1,0,none⟩=some vc:=(fun o1 o2=>((bal (bal (Below.refl _ _) o1) o2).cell hbl1).trans q3);have hxi:(0:Int)≤(x:Int):=(by omega);have hxj:(x:Int)<5:=(by omega);clear hRn hk hx0 hx1)
       refine hKq.out _ _ (by (try dsimp only)<;>(trivial)) (fun hHeld=>?_)
       clear hKq Kq
       (try simp only [q1,q2,q3,Act.put,q4,q5,q6])
       refine wpAnyH_ready (rs:=[2]) (by kernel_rfl) (by simp) ?_
       refine AllReadyH.cons rfl (fun Kq hKq=>?_) ?_
       ·(try simp only [q1,q2,q3])
        refine step_fold (a:=⟨_,_⟩) ?_
        go_simp
        refine hKq.out _ _ (by (try dsimp only)<;>(trivial)) (fun hHeld=>?_)
        clear hKq Kq
        (try simp only [q1,q2,q3,Act.put,q4,q5,q6])
        refine wpAnyH_take (i:=5) (v:=_) rfl (by kernel_rfl) (by kernel_rfl) (by kernel_rfl) (fun _ _ _ h=>h) (Or.inl ⟨by rfl,by (intro w hSw;(try dsimp only at hSw);go_simp<;>with_reducible rfl)⟩) (by assumption) ?_
        (try simp only [q1,q2,q3,Act.put,q4,q5,q6])
        refine wpAnyH_ready (rs:=[6]) (by kernel_rfl) (by simp) ?_
        refine AllReadyH.cons rfl (fun Kq hKq=>?_) ?_
        ·(try simp only [q1,q2,q3])
         refine step_fold (a:=⟨_,_⟩) ?_
         go_simp
         refine hKq.out _ _ (by (try dsimp only)<;>(trivial)) (fun hHeld=>?_)
         clear hKq Kq
         (try simp only [q1,q2,q3,Act.put,q4,q5,q6])
         refine wpAnyH_ready (rs:=[7]) (by kernel_rfl) (by simp) ?_
         refine AllReadyH.cons rfl (fun Kq hKq=>?_) ?_
         ·(try simp only [q1,q2,q3])
          refine step_fold (a:=⟨_,_⟩) ?_
          go_simp
          refine hKq.out _ _ (by (try dsimp only)<;>(trivial)) (fun hHeld=>?_)
          clear hKq Kq
          (try simp only [q1,q2,q3,Act.put,q4,q5,q6])
          refine wpAnyH_ready (rs:=[8]) (by kernel_rfl) (by simp) ?_
          refine AllReadyH.cons rfl (fun Kq hKq=>?_) ?_
          ·(try simp only [q1,q2,q3])
           refine step_fold (a:=⟨_,_⟩) ?_
           ((refine step_append_kd (d:=Kd.int) (by rfl) _ _ _ (by rfl) Tryz.underlying22 _ 8 infoInt rfl (by decide) (by decide) (by rfl) (OwnI.belowAll hP1.C (by repeat' first | exact Below.refl _ _ | apply Below.drew | refine bal ?_ _)) _ _ (by rfl) (Row.one_at (d:=Kd.int) (e:=3) (S:=fun _=>False) (x:=y) _ ⟨rfl,by omega,by omega⟩ (by simp)) (fun k hk e=>by have:=hP1.C.blk k e.symm;rcases hk with hk | hk;exact hk;first | omega | (simp at hk;omega)) (by have:=HCL.out;have:=HKL.out;simp;omega) (by have:=hP1.k.size;simp;omega) ?_;intro v2 w2 ho2 hg2 hv2;have hrp:=PAt.rpG (PAt.below hP1 (by repeat' first | exact Below.refl _ _ | apply Below.drew | refine bal ?_ _)) hg2;have q5:=cell_of_row _ _ 0 _ _ _ hrp;have q6:=froz_ hrp;have hP2:=PAt.setC (PAt.below hP1 (by repeat' first | exact Below.refl _ _ | apply Below.drew | refine bal ?_ _)) rfl hg2 hv2 (OwnI.of ho2);simp at q5;obtain⟨Ac,cc,rfl,hcc,hrc⟩:=Own.row ho2;clear hrc))
           refine hKq.out _ _ (by (try dsimp only)<;>(trivial)) (fun hHeld=>?_)
           clear hKq Kq
           (try simp only [q1,q2,q3,Act.put,q4,q5,q6])
           refine wpAnyH_take (i:=9) (v:=_) rfl (by kernel_rfl) (by kernel_rfl) (by kernel_rfl) (fun _ _ _ h=>h) (Or.inl ⟨by rfl,by (intro w hSw;(try dsimp only at hSw);go_simp<;>with_reducible rfl)⟩) (by assumption) ?_
           (try simp only [q1,q2,q3,Act.put,q4,q5,q6])
           refine wpAnyH_ready (rs:=[10]) (by kernel_rfl) (by simp) ?_
           refine AllReadyH.cons rfl (fun Kq hKq=>?_) ?_
           ·(try simp only [q1,q2,q3])
            refine step_fold (a:=⟨_,_⟩) ?_
            go_simp
            refine hKq.out _ _ (by (try dsimp only)<;>(trivial)) (fun hHeld=>?_)
            clear hKq Kq
            (try simp only [q1,q2,q3,Act.put,q4,q5,q6])
            refine wpAnyH_done (by kernel_rfl) ?_ _
            refine NoPanic.normal ?_
            have hP9:=hP2.less (f':=F+990-2*(k+1)) (by omega)
            simp only [List.length_append,List.length_cons,List.length_nil,Nat.zero_add] at hP9
            go_wp2
            exact⟨⟨k+1,_,cs ++ [y],by go_num,by have:=HKL.out;omega,by have:=HCL.out;simp;omega,hP9⟩,by have:=HKL.out;simp [intOf];omega⟩
           exact AllReadyH.nil
          exact AllReadyH.nil
         exact AllReadyH.nil
        exact AllReadyH.nil
       exact AllReadyH.nil
      exact AllReadyH.nil
     refine AllReadyH.cons rfl (fun Kq hKq=>?_) ?_
     ·(try simp only [q1,q2,q3])
      refine step_fold (a:=⟨_,_⟩) ?_
      go_simp
      refine hKq.out _ _ (by (try dsimp only)<;>(trivial)) (fun hHeld=>?_)
      clear hKq Kq
      (try simp only [q1,q2,q3,Act.put,q4,q5,q6])
      refine wpAnyH_ready (rs:=[1,4]) (by kernel_rfl) (by simp) ?_
      refine AllReadyH.cons rfl (fun Kq hKq=>?_) ?_
      ·(try simp only [q1,q2,q3])
       refine step_fold (a:=⟨_,_⟩) ?_
       go_simp
       refine hKq.out _ _ (by (try dsimp only)<;>(trivial)) (fun hHeld=>?_)
       clear hKq Kq
       (try simp only [q1,q2,q3,Act.put,q4,q5,q6])
       refine wpAnyH_ready (rs:=[4]) (by kernel_rfl) (by simp) ?_
       refine AllReadyH.cons rfl (fun Kq hKq=>?_) ?_
       ·(try simp only [q1,q2,q3])
        refine step_fold (a:=⟨_,_⟩) ?_
        go_simp
        first | (go_at_call 64;refine(pick_calls _ _ _ _ _ _ _ _ (PAt.R (PAt.below hPc (by repeat' first | exact Below.refl _ _ | apply Below.drew | refine bal ?_ _))) (by omega)).mono ?_;rintro e w1 ⟨x,rfl,hx0,hx1,hRn,hk⟩;obtain⟨x,rfl⟩:=Int.eq_ofNat_of_zero_le hx0;have hx5:x<5:=(by omega);have hP1:=PAt.pick (PAt.below hPc (by repeat' first | exact Below.refl _ _ | apply Below.drew | refine bal ?_ _)) hRn hk;obtain⟨y,hy,hy0,hy1⟩:=nums5 (hk.blk hblk (by omega)) x hx5;have hy':=Lib.hid hy;clear hy;have hy:=hy'.out;clear hy';have q3:=hP1.c0;have hbl1:=(Array.getElem?_eq_some_iff.1 hP1.rp).1;have hxi:(0:Int)≤(x:Int):=(by omega);have hxj:(x:Int)<5:=(by omega);clear hRn hk hx0 hx1) | (go_at_call 64;refine(pick_calls _ _ _ _ _ _ _ _ (PAt.R (PAt.below hPc (by repeat' first | exact Below.refl _ _ | apply Below.drew | refine bal ?_ _))) (by omega)).mono ?_;rintro e w1 ⟨x,rfl,hx0,hx1,hRn,hk⟩;obtain⟨x,rfl⟩:=Int.eq_ofNat_of_zero_le hx0;have hx5:x<5:=(by omega);have hP1:=PAt.pick (PAt.below hPc (by repeat' first | exact Below.refl _ _ | apply Below.drew | refine bal ?_ _)) hRn hk;obtain⟨y,hy,hy0,hy1⟩:=nums5_new w1 x hx5;have q3:=hP1.c0;have hbl1:=(Array.getElem?_eq_some_iff.1 hP1.rp).1;have q4:∀ o1 o2,((w1.alloc o1).alloc o2).cell? ⟨wi.heap.size+1,0,none⟩=some vc:=(fun o1 o2=>((bal (bal (Below.refl _ _) o1) o2).cell hbl1).trans q3);have hxi:(0:Int)≤(x:Int):=(by omega);have hxj:(x:Int)<5:=(by omega);clear hRn hk hx0 hx1)
        refine hKq.out _ _ (by (try dsimp only)<;>(trivial)) (fun hHeld=>?_)
        clear hKq Kq
        (try simp only [q1,q2,q3,Act.put,q4,q5,q6])
        refine wpAnyH_take (i:=5) (v:=_) rfl (by kernel_rfl) (by kernel_rfl) (by kernel_rfl) (fun _ _ _ h=>h) (Or.inl ⟨by rfl,by (intro w hSw;(try dsimp only at hSw);go_simp<;>with_reducible rfl)⟩) (by assumption) ?_
        (try simp only [q1,q2,q3,Act.put,q4,q5,q6])
        refine wpAnyH_ready (rs:=[6]) (by kernel_rfl) (by simp) ?_
        refine AllReadyH.cons rfl (fun Kq hKq=>?_) ?_
        ·(try simp only [q1,q2,q3])
         refine step_fold (a:=⟨_,_⟩) ?_
         go_simp
         refine hKq.out _ _ (by (try dsimp only)<;>(trivial)) (fun hHeld=>?_)
         clear hKq Kq
         (try simp only [q1,q2,q3,Act.put,q4,q5,q6])
         refine wpAnyH_ready (rs:=[7]) (by kernel_rfl) (by simp) ?_
         refine AllReadyH.cons rfl (fun Kq hKq=>?_) ?_
         ·(try simp only [q1,q2,q3])
          refine step_fold (a:=⟨_,_⟩) ?_
          go_simp
          refine hKq.out _ _ (by (try dsimp only)<;>(trivial)) (fun hHeld=>?_)
          clear hKq Kq
          (try simp only [q1,q2,q3,Act.put,q4,q5,q6])
          refine wpAnyH_ready (rs:=[8]) (by kernel_rfl) (by simp) ?_
          refine AllReadyH.cons rfl (fun Kq hKq=>?_) ?_
          ·(try simp only [q1,q2,q3])
           refine step_fold (a:=⟨_,_⟩) ?_
           ((refine step_append_kd (d:=Kd.int) (by rfl) _ _ _ (by rfl) Tryz.underlying22 _ 8 infoInt rfl (by decide) (by decide) (by rfl) (OwnI.belowAll hP1.C (by repeat' first | exact Below.refl _ _ | apply Below.drew | refine bal ?_ _)) _ _ (by rfl) (Row.one_at (d:=Kd.int) (e:=3) (S:=fun _=>False) (x:=y) _ ⟨rfl,by omega,by omega⟩ (by simp)) (fun k hk e=>by have:=hP1.C.blk k e.symm;rcases hk with hk | hk;exact hk;first | omega | (simp at hk;omega)) (by have:=HCL.out;have:=HKL.out;simp;omega) (by have:=hP1.k.size;simp;omega) ?_;intro v2 w2 ho2 hg2 hv2;have hrp:=PAt.rpG (PAt.below hP1 (by repeat' first | exact Below.refl _ _ | apply Below.drew | refine bal ?_ _)) hg2;have q5:=cell_of_row _ _ 0 _ _ _ hrp;have q6:=froz_ hrp;have hP2:=PAt.setC (PAt.below hP1 (by repeat' first | exact Below.refl _ _ | apply Below.drew | refine bal ?_ _)) rfl hg2 hv2 (OwnI.of ho2);simp at q5;obtain⟨Ac,cc,rfl,hcc,hrc⟩:=Own.row ho2;clear hrc))
           refine hKq.out _ _ (by (try dsimp only)<;>(trivial)) (fun hHeld=>?_)
           clear hKq Kq
           (try simp only [q1,q2,q3,Act.put,q4,q5,q6])
           refine wpAnyH_take (i:=9) (v:=_) rfl (by kernel_rfl) (by kernel_rfl) (by kernel_rfl) (fun _ _ _ h=>h) (Or.inl ⟨by rfl,by (intro w hSw;(try dsimp only at hSw);go_simp<;>with_reducible rfl)⟩) (by assumption) ?_
           (try simp only [q1,q2,q3,Act.put,q4,q5,q6])
           refine wpAnyH_ready (rs:=[10]) (by kernel_rfl) (by simp) ?_
           refine AllReadyH.cons rfl (fun Kq hKq=>?_) ?_
           ·(try simp only [q1,q2,q3])
            refine step_fold (a:=⟨_,_⟩) ?_
            go_simp
            refine hKq.out _ _ (by (try dsimp only)<;>(trivial)) (fun hHeld=>?_)
            clear hKq Kq
            (try simp only [q1,q2,q3,Act.put,q4,q5,q6])
            refine wpAnyH_done (by kernel_rfl) ?_ _
            refine NoPanic.normal ?_
            have hP9:=hP2.less (f':=F+990-2*(k+1)) (by omega)
            simp only [List.length_append,List.length_cons,List.length_nil,Nat.zero_add] at hP9
            go_wp2
            exact⟨⟨k+1,_,cs ++ [y],by go_num,by have:=HKL.out;omega,by have:=HCL.out;simp;omega,hP9⟩,by have:=HKL.out;simp [intOf];omega⟩
           exact AllReadyH.nil
          exact AllReadyH.nil
         exact AllReadyH.nil
        exact AllReadyH.nil
       exact AllReadyH.nil
      refine AllReadyH.cons rfl (fun Kq hKq=>?_) ?_
      ·(try simp only [q1,q2,q3])
       refine step_fold (a:=⟨_,_⟩) ?_
       go_simp
       first | (go_at_call 64;refine(pick_calls _ _ _ _ _ _ _ _ (PAt.R (PAt.below hPc (by repeat' first | exact Below.refl _ _ | apply Below.drew | refine bal ?_ _))) (by omega)).mono ?_;rintro e w1 ⟨x,rfl,hx0,hx1,hRn,hk⟩;obtain⟨x,rfl⟩:=Int.eq_ofNat_of_zero_le hx0;have hx5:x<5:=(by omega);have hP1:=PAt.pick (PAt.below hPc (by repeat' first | exact Below.refl _ _ | apply Below.drew | refine bal ?_ _)) hRn hk;obtain⟨y,hy,hy0,hy1⟩:=nums5 (hk.blk hblk (by omega)) x hx5;have hy':=Lib.hid hy;clear hy;have hy:=hy'.out;clear hy';have q3:=hP1.c0;have hbl1:=(Array.getElem?_eq_some_iff.1 hP1.rp).1;have hxi:(0:Int)≤(x:Int):=(by omega);have hxj:(x:Int)<5:=(by omega);clear hRn hk hx0 hx1) | (go_at_call 64;refine(pick_calls _ _ _ _ _ _ _ _ (PAt.R (PAt.below hPc (by repeat' first | exact Below.refl _ _ | apply Below.drew | refine bal ?_ _))) (by omega)).mono ?_;rintro e w1 ⟨x,rfl,hx0,hx1,hRn,hk⟩;obtain⟨x,rfl⟩:=Int.eq_ofNat_of_zero_le hx0;have hx5:x<5:=(by omega);have hP1:=PAt.pick (PAt.below hPc (by repeat' first | exact Below.refl _ _ | apply Below.drew | refine bal ?_ _)) hRn hk;obtain⟨y,hy,hy0,hy1⟩:=nums5_new w1 x hx5;have q3:=hP1.c0;have hbl1:=(Array.getElem?_eq_some_iff.1 hP1.rp).1;have q4:∀ o1 o2,((w1.alloc o1).alloc o2).cell? ⟨wi.heap.size+1,0,none⟩=some vc:=(fun o1 o2=>((bal (bal (Below.refl _ _) o1) o2).cell hbl1).trans q3);have hxi:(0:Int)≤(x:Int):=(by omega);have hxj:(x:Int)<5:=(by omega);clear hRn hk hx0 hx1)
       refine hKq.out _ _ (by (try dsimp only)<;>(trivial)) (fun hHeld=>?_)
       clear hKq Kq
       (try simp only [q1,q2,q3,Act.put,q4,q5,q6])
       refine wpAnyH_take (i:=5) (v:=_) rfl (by kernel_rfl) (by kernel_rfl) (by kernel_rfl) (fun _ _ _ h=>h) (Or.inl ⟨by rfl,by (intro w hSw;(try dsimp only at hSw);go_simp<;>with_reducible rfl)⟩) (by assumption) ?_
       (try simp only [q1,q2,q3,Act.put,q4,q5,q6])
       refine wpAnyH_ready (rs:=[1,6]) (by kernel_rfl) (by simp) ?_
       refine AllReadyH.cons rfl (fun Kq hKq=>?_) ?_
       ·(try simp only [q1,q2,q3])
        refine step_fold (a:=⟨_,_⟩) ?_
        go_simp
        refine hKq.out _ _ (by (try dsimp only)<;>(trivial)) (fun hHeld=>?_)
        clear hKq Kq
        (try simp only [q1,q2,q3,Act.put,q4,q5,q6])
        refine wpAnyH_ready (rs:=[6]) (by kernel_rfl) (by simp) ?_
        refine AllReadyH.cons rfl (fun Kq hKq=>?_) ?_
        ·(try simp only [q1,q2,q3])
         refine step_fold (a:=⟨_,_⟩) ?_
         go_simp
         refine hKq.out _ _ (by (try dsimp only)<;>(trivial)) (fun hHeld=>?_)
         clear hKq Kq
         (try simp only [q1,q2,q3,Act.put,q4,q5,q6])
         refine wpAnyH_ready (rs:=[7]) (by kernel_rfl) (by simp) ?_
         refine AllReadyH.cons rfl (fun Kq hKq=>?_) ?_
         ·(try simp only [q1,q2,q3])
          refine step_fold (a:=⟨_,_⟩) ?_
          go_simp
          refine hKq.out _ _ (by (try dsimp only)<;>(trivial)) (fun hHeld=>?_)
          clear hKq Kq
          (try simp only [q1,q2,q3,Act.put,q4,q5,q6])
          refine wpAnyH_ready (rs:=[8]) (by kernel_rfl) (by simp) ?_
          refine AllReadyH.cons rfl (fun Kq hKq=>?_) ?_
          ·(try simp only [q1,q2,q3])
           refine step_fold (a:=⟨_,_⟩) ?_
           ((refine step_append_kd (d:=Kd.int) (by rfl) _ _ _ (by rfl) Tryz.underlying22 _ 8 infoInt rfl (by decide) (by decide) (by rfl) (OwnI.belowAll hP1.C (by repeat' first | exact Below.refl _ _ | apply Below.drew | refine bal ?_ _)) _ _ (by rfl) (Row.one_at (d:=Kd.int) (e:=3) (S:=fun _=>False) (x:=y) _ ⟨rfl,by omega,by omega⟩ (by simp)) (fun k hk e=>by have:=hP1.C.blk k e.symm;rcases hk with hk | hk;exact hk;first | omega | (simp at hk;omega)) (by have:=HCL.out;have:=HKL.out;simp;omega) (by have:=hP1.k.size;simp;omega) ?_;intro v2 w2 ho2 hg2 hv2;have hrp:=PAt.rpG (PAt.below hP1 (by repeat' first | exact Below.refl _ _ | apply Below.drew | refine bal ?_ _)) hg2;have q5:=cell_of_row _ _ 0 _ _ _ hrp;have q6:=froz_ hrp;have hP2:=PAt.setC (PAt.below hP1 (by repeat' first | exact Below.refl _ _ | apply Below.drew | refine bal ?_ _)) rfl hg2 hv2 (OwnI.of ho2);simp at q5;obtain⟨Ac,cc,rfl,hcc,hrc⟩:=Own.row ho2;clear hrc))
           refine hKq.out _ _ (by (try dsimp only)<;>(trivial)) (fun hHeld=>?_)
           clear hKq Kq
           (try simp only [q1,q2,q3,Act.put,q4,q5,q6])
           refine wpAnyH_take (i:=9) (v:=_) rfl (by kernel_rfl) (by kernel_rfl) (by kernel_rfl) (fun _ _ _ h=>h) (Or.inl ⟨by rfl,by (intro w hSw;(try dsimp only at hSw);go_simp<;>with_reducible rfl)⟩) (by assumption) ?_
           (try simp only [q1,q2,q3,Act.put,q4,q5,q6])
           refine wpAnyH_ready (rs:=[10]) (by kernel_rfl) (by simp) ?_
           refine AllReadyH.cons rfl (fun Kq hKq=>?_) ?_
           ·(try simp only [q1,q2,q3])
            refine step_fold (a:=⟨_,_⟩) ?_
            go_simp
            refine hKq.out _ _ (by (try dsimp only)<;>(trivial)) (fun hHeld=>?_)
            clear hKq Kq
            (try simp only [q1,q2,q3,Act.put,q4,q5,q6])
            refine wpAnyH_done (by kernel_rfl) ?_ _
            refine NoPanic.normal ?_
            have hP9:=hP2.less (f':=F+990-2*(k+1)) (by omega)
            simp only [List.length_append,List.length_cons,List.length_nil,Nat.zero_add] at hP9
            go_wp2
            exact⟨⟨k+1,_,cs ++ [y],by go_num,by have:=HKL.out;omega,by have:=HCL.out;simp;omega,hP9⟩,by have:=HKL.out;simp [intOf];omega⟩
           exact AllReadyH.nil
          exact AllReadyH.nil
         exact AllReadyH.nil
        exact AllReadyH.nil
       refine AllReadyH.cons rfl (fun Kq hKq=>?_) ?_
       ·(try simp only [q1,q2,q3])
        refine step_fold (a:=⟨_,_⟩) ?_
        go_simp
        refine hKq.out _ _ (by (try dsimp only)<;>(trivial)) (fun hHeld=>?_)
        clear hKq Kq
        (try simp only [q1,q2,q3,Act.put,q4,q5,q6])
        refine wpAnyH_ready (rs:=[1,7]) (by kernel_rfl) (by simp) ?_
        refine AllReadyH.cons rfl (fun Kq hKq=>?_) ?_
        ·(try simp only [q1,q2,q3])
         refine step_fold (a:=⟨_,_⟩) ?_
         go_simp
         refine hKq.out _ _ (by (try dsimp only)<;>(trivial)) (fun hHeld=>?_)
         clear hKq Kq
         (try simp only [q1,q2,q3,Act.put,q4,q5,q6])
         refine wpAnyH_ready (rs:=[7]) (by kernel_rfl) (by simp) ?_
         refine AllReadyH.cons rfl (fun Kq hKq=>?_) ?_
         ·(try simp only [q1,q2,q3])
          refine step_fold (a:=⟨_,_⟩) ?_
          go_simp
          refine hKq.out _ _ (by (try dsimp only)<;>(trivial)) (fun hHeld=>?_)
          clear hKq Kq
          (try simp only [q1,q2,q3,Act.put,q4,q5,q6])
          refine wpAnyH_ready (rs:=[8]) (by kernel_rfl) (by simp) ?_
          refine AllReadyH.cons rfl (fun Kq hKq=>?_) ?_
          ·(try simp only [q1,q2,q3])
           refine step_fold (a:=⟨_,_⟩) ?_
           ((refine step_append_kd (d:=Kd.int) (by rfl) _ _ _ (by rfl) Tryz.underlying22 _ 8 infoInt rfl (by decide) (by decide) (by rfl) (OwnI.belowAll hP1.C (by repeat' first | exact Below.refl _ _ | apply Below.drew | refine bal ?_ _)) _ _ (by rfl) (Row.one_at (d:=Kd.int) (e:=3) (S:=fun _=>False) (x:=y) _ ⟨rfl,by omega,by omega⟩ (by simp)) (fun k hk e=>by have:=hP1.C.blk k e.symm;rcases hk with hk | hk;exact hk;first | omega | (simp at hk;omega)) (by have:=HCL.out;have:=HKL.out;simp;omega) (by have:=hP1.k.size;simp;omega) ?_;intro v2 w2 ho2 hg2 hv2;have hrp:=PAt.rpG (PAt.below hP1 (by repeat' first | exact Below.refl _ _ | apply Below.drew | refine bal ?_ _)) hg2;have q5:=cell_of_row _ _ 0 _ _ _ hrp;have q6:=froz_ hrp;have hP2:=PAt.setC (PAt.below hP1 (by repeat' first | exact Below.refl _ _ | apply Below.drew | refine bal ?_ _)) rfl hg2 hv2 (OwnI.of ho2);simp at q5;obtain⟨Ac,cc,rfl,hcc,hrc⟩:=Own.row ho2;clear hrc))
           refine hKq.out _ _ (by (try dsimp only)<;>(trivial)) (fun hHeld=>?_)
           clear hKq Kq
           (try simp only [q1,q2,q3,Act.put,q4,q5,q6])
           refine wpAnyH_take (i:=9) (v:=_) rfl (by kernel_rfl) (by kernel_rfl) (by kernel_rfl) (fun _ _ _ h=>h) (Or.inl ⟨by rfl,by (intro w hSw;(try dsimp only at hSw);go_simp<;>with_reducible rfl)⟩) (by assumption) ?_
           (try simp only [q1,q2,q3,Act.put,q4,q5,q6])
           refine wpAnyH_ready (rs:=[10]) (by kernel_rfl) (by simp) ?_
           refine AllReadyH.cons rfl (fun Kq hKq=>?_) ?_
           ·(try simp only [q1,q2,q3])
            refine step_fold (a:=⟨_,_⟩) ?_
            go_simp
            refine hKq.out _ _ (by (try dsimp only)<;>(trivial)) (fun hHeld=>?_)
            clear hKq Kq
            (try simp only [q1,q2,q3,Act.put,q4,q5,q6])
            refine wpAnyH_done (by kernel_rfl) ?_ _
            refine NoPanic.normal ?_
            have hP9:=hP2.less (f':=F+990-2*(k+1)) (by omega)
            simp only [List.length_append,List.length_cons,List.length_nil,Nat.zero_add] at hP9
            go_wp2
            exact⟨⟨k+1,_,cs ++ [y],by go_num,by have:=HKL.out;omega,by have:=HCL.out;simp;omega,hP9⟩,by have:=HKL.out;simp [intOf];omega⟩
           exact AllReadyH.nil
          exact AllReadyH.nil
         exact AllReadyH.nil
        refine AllReadyH.cons rfl (fun Kq hKq=>?_) ?_
        ·(try simp only [q1,q2,q3])
         refine step_fold (a:=⟨_,_⟩) ?_
         go_simp
         refine hKq.out _ _ (by (try dsimp only)<;>(trivial)) (fun hHeld=>?_)
         clear hKq Kq
         (try simp only [q1,q2,q3,Act.put,q4,q5,q6])
         refine wpAnyH_ready (rs:=[1]) (by kernel_rfl) (by simp) ?_
         refine AllReadyH.cons rfl (fun Kq hKq=>?_) ?_
         ·(try simp only [q1,q2,q3])
          refine step_fold (a:=⟨_,_⟩) ?_
          go_simp
          refine hKq.out _ _ (by (try dsimp only)<;>(trivial)) (fun hHeld=>?_)
          clear hKq Kq
          (try simp only [q1,q2,q3,Act.put,q4,q5,q6])
          refine wpAnyH_ready (rs:=[8]) (by kernel_rfl) (by simp) ?_
          refine AllReadyH.cons rfl (fun Kq hKq=>?_) ?_
          ·(try simp only [q1,q2,q3])
           refine step_fold (a:=⟨_,_⟩) ?_
           ((refine step_append_kd (d:=Kd.int) (by rfl) _ _ _ (by rfl) Tryz.underlying22 _ 8 infoInt rfl (by decide) (by decide) (by rfl) (OwnI.belowAll hP1.C (by repeat' first | exact Below.refl _ _ | apply Below.drew | refine bal ?_ _)) _ _ (by rfl) (Row.one_at (d:=Kd.int) (e:=3) (S:=fun _=>False) (x:=y) _ ⟨rfl,by omega,by omega⟩ (by simp)) (fun k hk e=>by have:=hP1.C.blk k e.symm;rcases hk with hk | hk;exact hk;first | omega | (simp at hk;omega)) (by have:=HCL.out;have:=HKL.out;simp;omega) (by have:=hP1.k.size;simp;omega) ?_;intro v2 w2 ho2 hg2 hv2;have hrp:=PAt.rpG (PAt.below hP1 (by repeat' first | exact Below.refl _ _ | apply Below.drew | refine bal ?_ _)) hg2;have q5:=cell_of_row _ _ 0 _ _ _ hrp;have q6:=froz_ hrp;have hP2:=PAt.setC (PAt.below hP1 (by repeat' first | exact Below.refl _ _ | apply Below.drew | refine bal ?_ _)) rfl hg2 hv2 (OwnI.of ho2);simp at q5;obtain⟨Ac,cc,rfl,hcc,hrc⟩:=Own.row ho2;clear hrc))
           refine hKq.out _ _ (by (try dsimp only)<;>(trivial)) (fun hHeld=>?_)
           clear hKq Kq
           (try simp only [q1,q2,q3,Act.put,q4,q5,q6])
           refine wpAnyH_take (i:=9) (v:=_) rfl (by kernel_rfl) (by kernel_rfl) (by kernel_rfl) (fun _ _ _ h=>h) (Or.inl ⟨by rfl,by (intro w hSw;(try dsimp only at hSw);go_simp<;>with_reducible rfl)⟩) (by assumption) ?_
           (try simp only [q1,q2,q3,Act.put,q4,q5,q6])
           refine wpAnyH_ready (rs:=[10]) (by kernel_rfl) (by simp) ?_
           refine AllReadyH.cons rfl (fun Kq hKq=>?_) ?_
           ·(try simp only [q1,q2,q3])
            refine step_fold (a:=⟨_,_⟩) ?_
            go_simp
            refine hKq.out _ _ (by (try dsimp only)<;>(trivial)) (fun hHeld=>?_)
            clear hKq Kq
            (try simp only [q1,q2,q3,Act.put,q4,q5,q6])
            refine wpAnyH_done (by kernel_rfl) ?_ _
            refine NoPanic.normal ?_
            have hP9:=hP2.less (f':=F+990-2*(k+1)) (by omega)
            simp only [List.length_append,List.length_cons,List.length_nil,Nat.zero_add] at hP9
            go_wp2
            exact⟨⟨k+1,_,cs ++ [y],by go_num,by have:=HKL.out;omega,by have:=HCL.out;simp;omega,hP9⟩,by have:=HKL.out;simp [intOf];omega⟩
           exact AllReadyH.nil
          exact AllReadyH.nil
         exact AllReadyH.nil
        exact AllReadyH.nil
       exact AllReadyH.nil
      exact AllReadyH.nil
     refine AllReadyH.cons rfl (fun Kq hKq=>?_) ?_
     ·(try simp only [q1,q2,q3])
      refine step_fold (a:=⟨_,_⟩) ?_
      go_simp
      first | (go_at_call 64;refine(pick_calls _ _ _ _ _ _ _ _ (PAt.R (PAt.below hPc (by repeat' first | exact Below.refl _ _ | apply Below.drew | refine bal ?_ _))) (by omega)).mono ?_;rintro e w1 ⟨x,rfl,hx0,hx1,hRn,hk⟩;obtain⟨x,rfl⟩:=Int.eq_ofNat_of_zero_le hx0;have hx5:x<5:=(by omega);have hP1:=PAt.pick (PAt.below hPc (by repeat' first | exact Below.refl _ _ | apply Below.drew | refine bal ?_ _)) hRn hk;obtain⟨y,hy,hy0,hy1⟩:=nums5 (hk.blk hblk (by omega)) x hx5;have hy':=Lib.hid hy;clear hy;have hy:=hy'.out;clear hy';have q3:=hP1.c0;have hbl1:=(Array.getElem?_eq_some_iff.1 hP1.rp).1;have hxi:(0:Int)≤(x:Int):=(by omega);have hxj:(x:Int)<5:=(by omega);clear hRn hk hx0 hx1) | (go_at_call 64;refine(pick_calls _ _ _ _ _ _ _ _ (PAt.R (PAt.below hPc (by repeat' first | exact Below.refl _ _ | apply Below.drew | refine bal ?_ _))) (by omega)).mono ?_;rintro e w1 ⟨x,rfl,hx0,hx1,hRn,hk⟩;obtain⟨x,rfl⟩:=Int.eq_ofNat_of_zero_le hx0;have hx5:x<5:=(by omega);have hP1:=PAt.pick (PAt.below hPc (by repeat' first | exact Below.refl _ _ | apply Below.drew | refine bal ?_ _)) hRn hk;obtain⟨y,hy,hy0,hy1⟩:=nums5_new w1 x hx5;have q3:=hP1.c0;have hbl1:=(Array.getElem?_eq_some_iff.1 hP1.rp).1;have q4:∀ o1 o2,((w1.alloc o1).alloc o2).cell? ⟨wi.heap.size+1,0,none⟩=some vc:=(fun o1 o2=>((bal (bal (Below.refl _ _) o1) o2).cell hbl1).trans q3);have hxi:(0:Int)≤(x:Int):=(by omega);have hxj:(x:Int)<5:=(by omega);clear hRn hk hx0 hx1)
      refine hKq.out _ _ (by (try dsimp only)<;>(trivial)) (fun hHeld=>?_)
      clear hKq Kq
      (try simp only [q1,q2,q3,Act.put,q4,q5,q6])
      refine wpAnyH_ready (rs:=[1,2]) (by kernel_rfl) (by simp) ?_
      refine AllReadyH.cons rfl (fun Kq hKq=>?_) ?_
      ·(try simp only [q1,q2,q3])
       refine step_fold (a:=⟨_,_⟩) ?_
       go_simp
       refine hKq.out _ _ (by (try dsimp only)<;>(trivial)) (fun hHeld=>?_)
       clear hKq Kq
       (try simp only [q1,q2,q3,Act.put,q4,q5,q6])
       refine wpAnyH_ready (rs:=[2]) (by kernel_rfl) (by simp) ?_
       refine AllReadyH.cons rfl (fun Kq hKq=>?_) ?_
       ·(try simp only [q1,q2,q3])
        refine step_fold (a:=⟨_,_⟩) ?_
        go_simp
        refine hKq.out _ _ (by (try dsimp only)<;>(trivial)) (fun hHeld=>?_)
        clear hKq Kq
        (try simp only [q1,q2,q3,Act.put,q4,q5,q6])
        refine wpAnyH_take (i:=5) (v:=_) rfl (by kernel_rfl) (by kernel_rfl) (by kernel_rfl) (fun _ _ _ h=>h) (Or.inl ⟨by rfl,by (intro w hSw;(try dsimp only at hSw);go_simp<;>with_reducible rfl)⟩) (by assumption) ?_
        (try simp only [q1,q2,q3,Act.put,q4,q5,q6])
        refine wpAnyH_ready (rs:=[6]) (by kernel_rfl) (by simp) ?_
        refine AllReadyH.cons rfl (fun Kq hKq=>?_) ?_
        ·(try simp only [q1,q2,q3])
         refine step_fold (a:=⟨_,_⟩) ?_
         go_simp
         refine hKq.out _ _ (by (try dsimp only)<;>(trivial)) (fun hHeld=>?_)
         clear hKq Kq
         (try simp only [q1,q2,q3,Act.put,q4,q5,q6])
         refine wpAnyH_ready (rs:=[7]) (by kernel_rfl) (by simp) ?_
         refine AllReadyH.cons rfl (fun Kq hKq=>?_) ?_
         ·(try simp only [q1,q2,q3])
          refine step_fold (a:=⟨_,_⟩) ?_
          go_simp
          refine hKq.out _ _ (by (try dsimp only)<;>(trivial)) (fun hHeld=>?_)
          clear hKq Kq
          (try simp only [q1,q2,q3,Act.put,q4,q5,q6])
          refine wpAnyH_ready (rs:=[8]) (by kernel_rfl) (by simp) ?_
          refine AllReadyH.cons rfl (fun Kq hKq=>?_) ?_
          ·(try simp only [q1,q2,q3])
           refine step_fold (a:=⟨_,_⟩) ?_
           ((refine step_append_kd (d:=Kd.int) (by rfl) _ _ _ (by rfl) Tryz.underlying22 _ 8 infoInt rfl (by decide) (by decide) (by rfl) (OwnI.belowAll hP1.C (by repeat' first | exact Below.refl _ _ | apply Below.drew | refine bal ?_ _)) _ _ (by rfl) (Row.one_at (d:=Kd.int) (e:=3) (S:=fun _=>False) (x:=y) _ ⟨rfl,by omega,by omega⟩ (by simp)) (fun k hk e=>by have:=hP1.C.blk k e.symm;rcases hk with hk | hk;exact hk;first | omega | (simp at hk;omega)) (by have:=HCL.out;have:=HKL.out;simp;omega) (by have:=hP1.k.size;simp;omega) ?_;intro v2 w2 ho2 hg2 hv2;have hrp:=PAt.rpG (PAt.below hP1 (by repeat' first | exact Below.refl _ _ | apply Below.drew | refine bal ?_ _)) hg2;have q5:=cell_of_row _ _ 0 _ _ _ hrp;have q6:=froz_ hrp;have hP2:=PAt.setC (PAt.below hP1 (by repeat' first | exact Below.refl _ _ | apply Below.drew | refine bal ?_ _)) rfl hg2 hv2 (OwnI.of ho2);simp at q5;obtain⟨Ac,cc,rfl,hcc,hrc⟩:=Own.row ho2;clear hrc))
           refine hKq.out _ _ (by (try dsimp only)<;>(trivial)) (fun hHeld=>?_)
           clear hKq Kq
           (try simp only [q1,q2,q3,Act.put,q4,q5,q6])
           refine wpAnyH_take (i:=9) (v:=_) rfl (by kernel_rfl) (by kernel_rfl) (by kernel_rfl) (fun _ _ _ h=>h) (Or.inl ⟨by rfl,by (intro w hSw;(try dsimp only at hSw);go_simp<;>with_reducible rfl)⟩) (by assumption) ?_
           (try simp only [q1,q2,q3,Act.put,q4,q5,q6])
           refine wpAnyH_ready (rs:=[10]) (by kernel_rfl) (by simp) ?_
           refine AllReadyH.cons rfl (fun Kq hKq=>?_) ?_
           ·(try simp only [q1,q2,q3])
            refine step_fold (a:=⟨_,_⟩) ?_
            go_simp
            refine hKq.out _ _ (by (try dsimp only)<;>(trivial)) (fun hHeld=>?_)
            clear hKq Kq
            (try simp only [q1,q2,q3,Act.put,q4,q5,q6])
            refine wpAnyH_done (by kernel_rfl) ?_ _
            refine NoPanic.normal ?_
            have hP9:=hP2.less (f':=F+990-2*(k+1)) (by omega)
            simp only [List.length_append,List.length_cons,List.length_nil,Nat.zero_add] at hP9
            go_wp2
            exact⟨⟨k+1,_,cs ++ [y],by go_num,by have:=HKL.out;omega,by have:=HCL.out;simp;omega,hP9⟩,by have:=HKL.out;simp [intOf];omega⟩
           exact AllReadyH.nil
          exact AllReadyH.nil
         exact AllReadyH.nil
        exact AllReadyH.nil
       exact AllReadyH.nil
      refine AllReadyH.cons rfl (fun Kq hKq=>?_) ?_
      ·(try simp only [q1,q2,q3])
       refine step_fold (a:=⟨_,_⟩) ?_
       go_simp
       refine hKq.out _ _ (by (try dsimp only)<;>(trivial)) (fun hHeld=>?_)
       clear hKq Kq
       (try simp only [q1,q2,q3,Act.put,q4,q5,q6])
       refine wpAnyH_take (i:=5) (v:=_) rfl (by kernel_rfl) (by kernel_rfl) (by kernel_rfl) (fun _ _ _ h=>h) (Or.inl ⟨by rfl,by (intro w hSw;(try dsimp only at hSw);go_simp<;>with_reducible rfl)⟩) (by assumption) ?_
       (try simp only [q1,q2,q3,Act.put,q4,q5,q6])
       refine wpAnyH_ready (rs:=[1,6]) (by kernel_rfl) (by simp) ?_
       refine AllReadyH.cons rfl (fun Kq hKq=>?_) ?_
       ·(try simp only [q1,q2,q3])
        refine step_fold (a:=⟨_,_⟩) ?_
        go_simp
        refine hKq.out _ _ (by (try dsimp only)<;>(trivial)) (fun hHeld=>?_)
        clear hKq Kq
        (try simp only [q1,q2,q3,Act.put,q4,q5,q6])
        refine wpAnyH_ready (rs:=[6]) (by kernel_rfl) (by simp) ?_
        refine AllReadyH.cons rfl (fun Kq hKq=>?_) ?_
        ·(try simp only [q1,q2,q3])
         refine step_fold (a:=⟨_,_⟩) ?_
         go_simp
         refine hKq.out _ _ (by (try dsimp only)<;>(trivial)) (fun hHeld=>?_)
         clear hKq Kq
         (try simp only [q1,q2,q3,Act.put,q4,q5,q6])
         refine wpAnyH_ready (rs:=[7]) (by kernel_rfl) (by simp) ?_
         refine AllReadyH.cons rfl (fun Kq hKq=>?_) ?_
         ·(try simp only [q1,q2,q3])
          refine step_fold (a:=⟨_,_⟩) ?_
          go_simp
          refine hKq.out _ _ (by (try dsimp only)<;>(trivial)) (fun hHeld=>?_)
          clear hKq Kq
          (try simp only [q1,q2,q3,Act.put,q4,q5,q6])
          refine wpAnyH_ready (rs:=[8]) (by kernel_rfl) (by simp) ?_
          refine AllReadyH.cons rfl (fun Kq hKq=>?_) ?_
          ·(try simp only [q1,q2,q3])
           refine step_fold (a:=⟨_,_⟩) ?_
           ((refine step_append_kd (d:=Kd.int) (by rfl) _ _ _ (by rfl) Tryz.underlying22 _ 8 infoInt rfl (by decide) (by decide) (by rfl) (OwnI.belowAll hP1.C (by repeat' first | exact Below.refl _ _ | apply Below.drew | refine bal ?_ _)) _ _ (by rfl) (Row.one_at (d:=Kd.int) (e:=3) (S:=fun _=>False) (x:=y) _ ⟨rfl,by omega,by omega⟩ (by simp)) (fun k hk e=>by have:=hP1.C.blk k e.symm;rcases hk with hk | hk;exact hk;first | omega | (simp at hk;omega)) (by have:=HCL.out;have:=HKL.out;simp;omega) (by have:=hP1.k.size;simp;omega) ?_;intro v2 w2 ho2 hg2 hv2;have hrp:=PAt.rpG (PAt.below hP1 (by repeat' first | exact Below.refl _ _ | apply Below.drew | refine bal ?_ _)) hg2;have q5:=cell_of_row _ _ 0 _ _ _ hrp;have q6:=froz_ hrp;have hP2:=PAt.setC (PAt.below hP1 (by repeat' first | exact Below.refl _ _ | apply Below.drew | refine bal ?_ _)) rfl hg2 hv2 (OwnI.of ho2);simp at q5;obtain⟨Ac,cc,rfl,hcc,hrc⟩:=Own.row ho2;clear hrc))
           refine hKq.out _ _ (by (try dsimp only)<;>(trivial)) (fun hHeld=>?_)
           clear hKq Kq
           (try simp only [q1,q2,q3,Act.put,q4,q5,q6])
           refine wpAnyH_take (i:=9) (v:=_) rfl (by kernel_rfl) (by kernel_rfl) (by kernel_rfl) (fun _ _ _ h=>h) (Or.inl ⟨by rfl,by (intro w hSw;(try dsimp only at hSw);go_simp<;>with_reducible rfl)⟩) (by assumption) ?_
           (try simp only [q1,q2,q3,Act.put,q4,q5,q6])
           refine wpAnyH_ready (rs:=[10]) (by kernel_rfl) (by simp) ?_
           refine AllReadyH.cons rfl (fun Kq hKq=>?_) ?_
           ·(try simp only [q1,q2,q3])
            refine step_fold (a:=⟨_,_⟩) ?_
            go_simp
            refine hKq.out _ _ (by (try dsimp only)<;>(trivial)) (fun hHeld=>?_)
            clear hKq Kq
            (try simp only [q1,q2,q3,Act.put,q4,q5,q6])
            refine wpAnyH_done (by kernel_rfl) ?_ _
            refine NoPanic.normal ?_
            have hP9:=hP2.less (f':=F+990-2*(k+1)) (by omega)
            simp only [List.length_append,List.length_cons,List.length_nil,Nat.zero_add] at hP9
            go_wp2
            exact⟨⟨k+1,_,cs ++ [y],by go_num,by have:=HKL.out;omega,by have:=HCL.out;simp;omega,hP9⟩,by have:=HKL.out;simp [intOf];omega⟩
           exact AllReadyH.nil
          exact AllReadyH.nil
         exact AllReadyH.nil
        exact AllReadyH.nil
       refine AllReadyH.cons rfl (fun Kq hKq=>?_) ?_
       ·(try simp only [q1,q2,q3])
        refine step_fold (a:=⟨_,_⟩) ?_
        go_simp
        refine hKq.out _ _ (by (try dsimp only)<;>(trivial)) (fun hHeld=>?_)
        clear hKq Kq
        (try simp only [q1,q2,q3,Act.put,q4,q5,q6])
        refine wpAnyH_ready (rs:=[1,7]) (by kernel_rfl) (by simp) ?_
        refine AllReadyH.cons rfl (fun Kq hKq=>?_) ?_
        ·(try simp only [q1,q2,q3])
         refine step_fold (a:=⟨_,_⟩) ?_
         go_simp
         refine hKq.out _ _ (by (try dsimp only)<;>(trivial)) (fun hHeld=>?_)
         clear hKq Kq
         (try simp only [q1,q2,q3,Act.put,q4,q5,q6])
         refine wpAnyH_ready (rs:=[7]) (by kernel_rfl) (by simp) ?_
         refine AllReadyH.cons rfl (fun Kq hKq=>?_) ?_
         ·(try simp only [q1,q2,q3])
          refine step_fold (a:=⟨_,_⟩) ?_
          go_simp
          refine hKq.out _ _ (by (try dsimp only)<;>(trivial)) (fun hHeld=>?_)
          clear hKq Kq
          (try simp only [q1,q2,q3,Act.put,q4,q5,q6])
          refine wpAnyH_ready (rs:=[8]) (by kernel_rfl) (by simp) ?_
          refine AllReadyH.cons rfl (fun Kq hKq=>?_) ?_
          ·(try simp only [q1,q2,q3])
           refine step_fold (a:=⟨_,_⟩) ?_
           ((refine step_append_kd (d:=Kd.int) (by rfl) _ _ _ (by rfl) Tryz.underlying22 _ 8 infoInt rfl (by decide) (by decide) (by rfl) (OwnI.belowAll hP1.C (by repeat' first | exact Below.refl _ _ | apply Below.drew | refine bal ?_ _)) _ _ (by rfl) (Row.one_at (d:=Kd.int) (e:=3) (S:=fun _=>False) (x:=y) _ ⟨rfl,by omega,by omega⟩ (by simp)) (fun k hk e=>by have:=hP1.C.blk k e.symm;rcases hk with hk | hk;exact hk;first | omega | (simp at hk;omega)) (by have:=HCL.out;have:=HKL.out;simp;omega) (by have:=hP1.k.size;simp;omega) ?_;intro v2 w2 ho2 hg2 hv2;have hrp:=PAt.rpG (PAt.below hP1 (by repeat' first | exact Below.refl _ _ | apply Below.drew | refine bal ?_ _)) hg2;have q5:=cell_of_row _ _ 0 _ _ _ hrp;have q6:=froz_ hrp;have hP2:=PAt.setC (PAt.below hP1 (by repeat' first | exact Below.refl _ _ | apply Below.drew | refine bal ?_ _)) rfl hg2 hv2 (OwnI.of ho2);simp at q5;obtain⟨Ac,cc,rfl,hcc,hrc⟩:=Own.row ho2;clear hrc))
           refine hKq.out _ _ (by (try dsimp only)<;>(trivial)) (fun hHeld=>?_)
           clear hKq Kq
           (try simp only [q1,q2,q3,Act.put,q4,q5,q6])
           refine wpAnyH_take (i:=9) (v:=_) rfl (by kernel_rfl) (by kernel_rfl) (by kernel_rfl) (fun _ _ _ h=>h) (Or.inl ⟨by rfl,by (intro w hSw;(try dsimp only at hSw);go_simp<;>with_reducible rfl)⟩) (by assumption) ?_
           (try simp only [q1,q2,q3,Act.put,q4,q5,q6])
           refine wpAnyH_ready (rs:=[10]) (by kernel_rfl) (by simp) ?_
           refine AllReadyH.cons rfl (fun Kq hKq=>?_) ?_
           ·(try simp only [q1,q2,q3])
            refine step_fold (a:=⟨_,_⟩) ?_
            go_simp
            refine hKq.out _ _ (by (try dsimp only)<;>(trivial)) (fun hHeld=>?_)
            clear hKq Kq
            (try simp only [q1,q2,q3,Act.put,q4,q5,q6])
            refine wpAnyH_done (by kernel_rfl) ?_ _
            refine NoPanic.normal ?_
            have hP9:=hP2.less (f':=F+990-2*(k+1)) (by omega)
            simp only [List.length_append,List.length_cons,List.length_nil,Nat.zero_add] at hP9
            go_wp2
            exact⟨⟨k+1,_,cs ++ [y],by go_num,by have:=HKL.out;omega,by have:=HCL.out;simp;omega,hP9⟩,by have:=HKL.out;simp [intOf];omega⟩
           exact AllReadyH.nil
          exact AllReadyH.nil
         exact AllReadyH.nil
        refine AllReadyH.cons rfl (fun Kq hKq=>?_) ?_
        ·(try simp only [q1,q2,q3])
         refine step_fold (a:=⟨_,_⟩) ?_
         go_simp
         refine hKq.out _ _ (by (try dsimp only)<;>(trivial)) (fun hHeld=>?_)
         clear hKq Kq
         (try simp only [q1,q2,q3,Act.put,q4,q5,q6])
         refine wpAnyH_ready (rs:=[1]) (by kernel_rfl) (by simp) ?_
         refine AllReadyH.cons rfl (fun Kq hKq=>?_) ?_
         ·(try simp only [q1,q2,q3])
          refine step_fold (a:=⟨_,_⟩) ?_
          go_simp
          refine hKq.out _ _ (by (try dsimp only)<;>(trivial)) (fun hHeld=>?_)
          clear hKq Kq
          (try simp only [q1,q2,q3,Act.put,q4,q5,q6])
          refine wpAnyH_ready (rs:=[8]) (by kernel_rfl) (by simp) ?_
          refine AllReadyH.cons rfl (fun Kq hKq=>?_) ?_
          ·(try simp only [q1,q2,q3])
           refine step_fold (a:=⟨_,_⟩) ?_
           ((refine step_append_kd (d:=Kd.int) (by rfl) _ _ _ (by rfl) Tryz.underlying22 _ 8 infoInt rfl (by decide) (by decide) (by rfl) (OwnI.belowAll hP1.C (by repeat' first | exact Below.refl _ _ | apply Below.drew | refine bal ?_ _)) _ _ (by rfl) (Row.one_at (d:=Kd.int) (e:=3) (S:=fun _=>False) (x:=y) _ ⟨rfl,by omega,by omega⟩ (by simp)) (fun k hk e=>by have:=hP1.C.blk k e.symm;rcases hk with hk | hk;exact hk;first | omega | (simp at hk;omega)) (by have:=HCL.out;have:=HKL.out;simp;omega) (by have:=hP1.k.size;simp;omega) ?_;intro v2 w2 ho2 hg2 hv2;have hrp:=PAt.rpG (PAt.below hP1 (by repeat' first | exact Below.refl _ _ | apply Below.drew | refine bal ?_ _)) hg2;have q5:=cell_of_row _ _ 0 _ _ _ hrp;have q6:=froz_ hrp;have hP2:=PAt.setC (PAt.below hP1 (by repeat' first | exact Below.refl _ _ | apply Below.drew | refine bal ?_ _)) rfl hg2 hv2 (OwnI.of ho2);simp at q5;obtain⟨Ac,cc,rfl,hcc,hrc⟩:=Own.row ho2;clear hrc))
           refine hKq.out _ _ (by (try dsimp only)<;>(trivial)) (fun hHeld=>?_)
           clear hKq Kq
           (try simp only [q1,q2,q3,Act.put,q4,q5,q6])
           refine wpAnyH_take (i:=9) (v:=_) rfl (by kernel_rfl) (by kernel_rfl) (by kernel_rfl) (fun _ _ _ h=>h) (Or.inl ⟨by rfl,by (intro w hSw;(try dsimp only at hSw);go_simp<;>with_reducible rfl)⟩) (by assumption) ?_
           (try simp only [q1,q2,q3,Act.put,q4,q5,q6])
           refine wpAnyH_ready (rs:=[10]) (by kernel_rfl) (by simp) ?_
           refine AllReadyH.cons rfl (fun Kq hKq=>?_) ?_
           ·(try simp only [q1,q2,q3])
            refine step_fold (a:=⟨_,_⟩) ?_
            go_simp
            refine hKq.out _ _ (by (try dsimp only)<;>(trivial)) (fun hHeld=>?_)
            clear hKq Kq
            (try simp only [q1,q2,q3,Act.put,q4,q5,q6])
            refine wpAnyH_done (by kernel_rfl) ?_ _
            refine NoPanic.normal ?_
            have hP9:=hP2.less (f':=F+990-2*(k+1)) (by omega)
            simp only [List.length_append,List.length_cons,List.length_nil,Nat.zero_add] at hP9
            go_wp2
            exact⟨⟨k+1,_,cs ++ [y],by go_num,by have:=HKL.out;omega,by have:=HCL.out;simp;omega,hP9⟩,by have:=HKL.out;simp [intOf];omega⟩
           exact AllReadyH.nil
          exact AllReadyH.nil
         exact AllReadyH.nil
        exact AllReadyH.nil
       exact AllReadyH.nil
      exact AllReadyH.nil
     exact AllReadyH.nil
    ·have hkn:k=1+n:=by omega
     subst hkn
     have hPd:=hP.less (f':=F+960) (by omega)
     have hcl2:=Lib.hid hcl
     obtain⟨Ac,cac,hvc,hcac,_⟩:=OwnI.row hPd.C
     subst hvc
     clear hkl hcl hP hk3
     go_wp2_with (go_at_call 64;refine(pick_calls _ _ _ _ _ _ _ _ hPd.R (by omega)).mono ?_;rintro e w3 ⟨m,rfl,hm0,hm1,hRn,hk⟩;have hP3:=Lib.hid ((PAt.pick hPd hRn hk).less (f':=F+950) (by omega));clear hRn hk hPd)
     obtain⟨m,rfl⟩:=Int.eq_ofNat_of_zero_le hm0
     have hm3:m<3:=by omega
     clear hm0 hm1
     go_loopw [8] (fun i wr=>∃ (k:Nat) (vb:Value) (bds:List (List Act)),i=.int .i64 k∧k≤2+m∧bds.length=k∧PAt wo wr g S A c bs (F+950-100*k) wo.heap.size (wi.heap.size+1) (.slice Ac cs.length cac) vb cs bds) (fun i _=>2+m-(intOf i).toNat)
     case atStart=>exact⟨0,_,[],rfl,by omega,rfl,hP3.out.less (by omega)⟩
     case round =>
      obtain⟨k,vb,bds,rfl,hk3,hbl,hP⟩:=hrel
      clear hP3
      by_cases hkl:k<2+m
      ·have hkl2:(k:Int)<2+(m:Int):=by omega
       have hPc:=hP.less (f':=F+850-100*k+100) (by omega)
       have HCL:=Lib.hid hbl
       have HKL:=Lib.hid hkl
       have q1:=hPc.c1
       have hbl0:=(Array.getElem?_eq_some_iff.1 hPc.rp).1
       clear hkl hbl hP
       go_wp2_with fail
       refine wp_region_noPanic ?_
       refine wp_region_held_drew (S:=(fun w'=>True)) (by kernel_rfl) (by (try dsimp only)<;>(trivial)) (fun hHeld=>?_)
       refine wpAnyH_take (i:=0) (v:=_) rfl (by kernel_rfl) (by kernel_rfl) (by kernel_rfl) (fun _ _ _ h=>h) (Or.inl ⟨by rfl,by (intro w hSw;(try dsimp only at hSw);go_simp<;>with_reducible rfl)⟩) (by assumption) ?_
       (try simp only [q1,q2,q3,Act.put,q4,q5,q6])
       refine wpAnyH_take (i:=2) (v:=_) rfl (by kernel_rfl) (by kernel_rfl) (by kernel_rfl) (fun _ _ _ h=>h) (Or.inl ⟨by rfl,by (intro w hSw;(try dsimp only at hSw);go_simp<;>with_reducible rfl)⟩) (by assumption) ?_
       (try simp only [q1,q2,q3,Act.put,q4,q5,q6])
       refine wpAnyH_take (i:=3) (v:=_) rfl (by kernel_rfl) (by kernel_rfl) (by kernel_rfl) (fun _ _ _ h=>h) (Or.inl ⟨by rfl,by (intro w hSw;(try dsimp only at hSw);go_simp<;>with_reducible rfl)⟩) (by assumption) ?_
       (try simp only [q1,q2,q3,Act.put,q4,q5,q6])
       refine wpAnyH_take (i:=4) (v:=_) rfl (by kernel_rfl) (by kernel_rfl) (by kernel_rfl) (fun _ _ _ h=>h) (Or.inl ⟨by rfl,by (intro w hSw;(try dsimp only at hSw);go_simp<;>with_reducible rfl)⟩) (by assumption) ?_
       (try simp only [q1,q2,q3,Act.put,q4,q5,q6])
       refine wpAnyH_take (i:=5) (v:=_) rfl (by kernel_rfl) (by kernel_rfl) (by kernel_rfl) (fun _ _ _ h=>h) (Or.inl ⟨by rfl,by (intro w hSw;(try dsimp only at hSw);go_simp<;>with_reducible rfl)⟩) (by assumption) ?_
       (try simp only [q1,q2,q3,Act.put,q4,q5,q6])
       refine wpAnyH_ready (rs:=[1,6]) (by kernel_rfl) (by simp) ?_
       refine AllReadyH.cons rfl (fun Kq hKq=>?_) ?_
       ·(try simp only [q1,q2,q3])
        refine step_fold (a:=⟨_,_⟩) ?_
        go_simp
        refine hKq.out _ _ (by (try dsimp only)<;>(trivial)) (fun hHeld=>?_)
        clear hKq Kq
        (try simp only [q1,q2,q3,Act.put,q4,q5,q6])
        refine wpAnyH_ready (rs:=[6]) (by kernel_rfl) (by simp) ?_
        refine AllReadyH.cons rfl (fun Kq hKq=>?_) ?_
        ·(try simp only [q1,q2,q3])
         refine step_fold (a:=⟨_,_⟩) ?_
         go_simp
         (go_at_call 139;refine(l71Body_calls _ _ _ _ _ _ _ _ _ _ (PAt.R (PAt.below hPc (by repeat' first | exact Below.refl _ _ | apply Below.drew | refine bal ?_ _))) (by omega) (by omega) (by omega) (by omega) (by omega)).mono ?_;rintro e w1 ⟨_,rfl,⟨acts,D,cd,rfl,hcd,hal,hrd⟩,hRn,hk⟩;have hP1:=PAt.pick (PAt.below hPc (by repeat' first | exact Below.refl _ _ | apply Below.drew | refine bal ?_ _)) hRn hk;have q3:=hP1.c1;have hbl1:=(Array.getElem?_eq_some_iff.1 hP1.rp).1;have hrw:=hrd.mono (S':=fun k=>wr.heap.size≤k) (fun k hk=>by simpa using hk);have hk1s:=hk.size;simp at hk1s;clear hRn hk hrd)
         refine hKq.out _ _ (by (try dsimp only)<;>(trivial)) (fun hHeld=>?_)
         clear hKq Kq
         (try simp only [q1,q2,q3,Act.put,q4,q5,q6])
         refine wpAnyH_ready (rs:=[7]) (by kernel_rfl) (by simp) ?_
         refine AllReadyH.cons rfl (fun Kq hKq=>?_) ?_
         ·(try simp only [q1,q2,q3])
          refine step_fold (a:=⟨_,_⟩) ?_
          go_simp
          refine hKq.out _ _ (by (try dsimp only)<;>(trivial)) (fun hHeld=>?_)
          clear hKq Kq
          (try simp only [q1,q2,q3,Act.put,q4,q5,q6])
          refine wpAnyH_ready (rs:=[8]) (by kernel_rfl) (by simp) ?_
          refine AllReadyH.cons rfl (fun Kq hKq=>?_) ?_
          ·(try simp only [q1,q2,q3])
           refine step_fold (a:=⟨_,_⟩) ?_
           ((refine step_append_kd (d:=Kd.slice kAct) (by rfl) _ _ _ (by rfl) Tryz.underlying37 _ 24 infoActS rfl (by decide) (by decide) (by rfl) (Own.belowAll hP1.B (by repeat' first | exact Below.refl _ _ | apply Below.drew | refine bal ?_ _)) _ _ (by rfl) (Row.one_at (d:=Kd.slice kAct) (e:=116) (S:=fun k=>wr.heap.size≤k) (x:=acts) _ ⟨D,cd,rfl,hcd,hrw⟩ (by simp)) (fun k hk e=>by have:=hPc.lts.2.2.2 k e.symm;have:=hk1s;rcases hk with hk | hk;omega;first | omega | (simp at hk;omega)) (by have:=HCL.out;have:=HKL.out;simp;omega) (by have:=hP1.k.size;simp;omega) ?_;intro v2 w2 ho2 hg2 hv2;have hrp:=PAt.rpB (PAt.below hP1 (by repeat' first | exact Below.refl _ _ | apply Below.drew | refine bal ?_ _)) hg2;have q5:=cell_of_row _ _ 1 _ _ _ hrp;have q6:=froz_ hrp;have hP2:=PAt.setB (PAt.below hP1 (by repeat' first | exact Below.refl _ _ | apply Below.drew | refine bal ?_ _)) hg2 (ho2.mono (fun k hk=>by rcases hk with hk | hk | hk;exact hk;exact hPc.past (by have:=hk1s;omega);exact hPc.past (by have:=hk1s;simp at hk;omega)));simp at q5;obtain⟨Ac,cc,rfl,hcc,hrc⟩:=Own.row ho2;clear hrc))
           refine hKq.out _ _ (by (try dsimp only)<;>(trivial)) (fun hHeld=>?_)
           clear hKq Kq
           (try simp only [q1,q2,q3,Act.put,q4,q5,q6])
           refine wpAnyH_take (i:=9) (v:=_) rfl (by kernel_rfl) (by kernel_rfl) (by kernel_rfl) (fun _ _ _ h=>h) (Or.inl ⟨by rfl,by (intro w hSw;(try dsimp only at hSw);go_simp<;>with_reducible rfl)⟩) (by assumption) ?_
           (try simp only [q1,q2,q3,Act.put,q4,q5,q6])
           refine wpAnyH_ready (rs:=[10]) (by kernel_rfl) (by simp) ?_
           refine AllReadyH.cons rfl (fun Kq hKq=>?_) ?_
           ·(try simp only [q1,q2,q3])
            refine step_fold (a:=⟨_,_⟩) ?_
            go_simp
            refine hKq.out _ _ (by (try dsimp only)<;>(trivial)) (fun hHeld=>?_)
            clear hKq Kq
            (try simp only [q1,q2,q3,Act.put,q4,q5,q6])
            refine wpAnyH_done (by kernel_rfl) ?_ _
            refine NoPanic.normal ?_
            have hP9:=hP2.less (f':=F+950-100*(k+1)) (by omega)
            simp only [List.length_append,List.length_cons,List.length_nil,Nat.zero_add] at hP9
            go_wp2
            exact⟨⟨k+1,_,bds ++ [acts],by go_num,by have:=HKL.out;omega,by have:=HCL.out;simp;omega,hP9⟩,by have:=HKL.out;simp [intOf];omega⟩
           exact AllReadyH.nil
          exact AllReadyH.nil
         exact AllReadyH.nil
        exact AllReadyH.nil
       refine AllReadyH.cons rfl (fun Kq hKq=>?_) ?_
       ·(try simp only [q1,q2,q3])
        refine step_fold (a:=⟨_,_⟩) ?_
        go_simp
        (go_at_call 139;refine(l71Body_calls _ _ _ _ _ _ _ _ _ _ (PAt.R (PAt.below hPc (by repeat' first | exact Below.refl _ _ | apply Below.drew | refine bal ?_ _))) (by omega) (by omega) (by omega) (by omega) (by omega)).mono ?_;rintro e w1 ⟨_,rfl,⟨acts,D,cd,rfl,hcd,hal,hrd⟩,hRn,hk⟩;have hP1:=PAt.pick (PAt.below hPc (by repeat' first | exact Below.refl _ _ | apply Below.drew | refine bal ?_ _)) hRn hk;have q3:=hP1.c1;have hbl1:=(Array.getElem?_eq_some_iff.1 hP1.rp).1;have hrw:=hrd.mono (S':=fun k=>wr.heap.size≤k) (fun k hk=>by simpa using hk);have hk1s:=hk.size;simp at hk1s;clear hRn hk hrd)
        refine hKq.out _ _ (by (try dsimp only)<;>(trivial)) (fun hHeld=>?_)
        clear hKq Kq
        (try simp only [q1,q2,q3,Act.put,q4,q5,q6])
        refine wpAnyH_ready (rs:=[1,7]) (by kernel_rfl) (by simp) ?_
        refine AllReadyH.cons rfl (fun Kq hKq=>?_) ?_
        ·(try simp only [q1,q2,q3])
         refine step_fold (a:=⟨_,_⟩) ?_
         go_simp
         refine hKq.out _ _ (by (try dsimp only)<;>(trivial)) (fun hHeld=>?_)
         clear hKq Kq
         (try simp only [q1,q2,q3,Act.put,q4,q5,q6])
         refine wpAnyH_ready (rs:=[7]) (by kernel_rfl) (by simp) ?_
         refine AllReadyH.cons rfl (fun Kq hKq=>?_) ?_
         ·(try simp only [q1,q2,q3])
          refine step_fold (a:=⟨_,_⟩) ?_
          go_simp
          refine hKq.out _ _ (by (try dsimp only)<;>(trivial)) (fun hHeld=>?_)
          clear hKq Kq
          (try simp only [q1,q2,q3,Act.put,q4,q5,q6])
          refine wpAnyH_ready (rs:=[8]) (by kernel_rfl) (by simp) ?_
          refine AllReadyH.cons rfl (fun Kq hKq=>?_) ?_
          ·(try simp only [q1,q2,q3])
           refine step_fold (a:=⟨_,_⟩) ?_
           ((refine step_append_kd (d:=Kd.slice kAct) (by rfl) _ _ _ (by rfl) Tryz.underlying37 _ 24 infoActS rfl (by decide) (by decide) (by rfl) (Own.belowAll hP1.B (by repeat' first | exact Below.refl _ _ | apply Below.drew | refine bal ?_ _)) _ _ (by rfl) (Row.one_at (d:=Kd.slice kAct) (e:=116) (S:=fun k=>wr.heap.size≤k) (x:=acts) _ ⟨D,cd,rfl,hcd,hrw⟩ (by simp)) (fun k hk e=>by have:=hPc.lts.2.2.2 k e.symm;have:=hk1s;rcases hk with hk | hk;omega;first | omega | (simp at hk;omega)) (by have:=HCL.out;have:=HKL.out;simp;omega) (by have:=hP1.k.size;simp;omega) ?_;intro v2 w2 ho2 hg2 hv2;have hrp:=PAt.rpB (PAt.below hP1 (by repeat' first | exact Below.refl _ _ | apply Below.drew | refine bal ?_ _)) hg2;have q5:=cell_of_row _ _ 1 _ _ _ hrp;have q6:=froz_ hrp;have hP2:=PAt.setB (PAt.below hP1 (by repeat' first | exact Below.refl _ _ | apply Below.drew | refine bal ?_ _)) hg2 (ho2.mono (fun k hk=>by rcases hk with hk | hk | hk;exact hk;exact hPc.past (by have:=hk1s;omega);exact hPc.past (by have:=hk1s;simp at hk;omega)));simp at q5;obtain⟨Ac,cc,rfl,hcc,hrc⟩:=Own.row ho2;clear hrc))
           refine hKq.out _ _ (by (try dsimp only)<;>(trivial)) (fun hHeld=>?_)
           clear hKq Kq
           (try simp only [q1,q2,q3,Act.put,q4,q5,q6])
           refine wpAnyH_take (i:=9) (v:=_) rfl (by kernel_rfl) (by kernel_rfl) (by kernel_rfl) (fun _ _ _ h=>h) (Or.inl ⟨by rfl,by (intro w hSw;(try dsimp only at hSw);go_simp<;>with_reducible rfl)⟩) (by assumption) ?_
           (try simp only [q1,q2,q3,Act.put,q4,q5,q6])
           refine wpAnyH_ready (rs:=[10]) (by kernel_rfl) (by simp) ?_
           refine AllReadyH.cons rfl (fun Kq hKq=>?_) ?_
           ·(try simp only [q1,q2,q3])
            refine step_fold (a:=⟨_,_⟩) ?_
            go_simp
            refine hKq.out _ _ (by (try dsimp only)<;>(trivial)) (fun hHeld=>?_)
            clear hKq Kq
            (try simp only [q1,q2,q3,Act.put,q4,q5,q6])
            refine wpAnyH_done (by kernel_rfl) ?_ _
            refine NoPanic.normal ?_
            have hP9:=hP2.less (f':=F+950-100*(k+1)) (by omega)
            simp only [List.length_append,List.length_cons,List.length_nil,Nat.zero_add] at hP9
            go_wp2
            exact⟨⟨k+1,_,bds ++ [acts],by go_num,by have:=HKL.out;omega,by have:=HCL.out;simp;omega,hP9⟩,by have:=HKL.out;simp [intOf];omega⟩
           exact AllReadyH.nil
          exact AllReadyH.nil
         exact AllReadyH.nil
        refine AllReadyH.cons rfl (fun Kq hKq=>?_) ?_
        ·(try simp only [q1,q2,q3])
         refine step_fold (a:=⟨_,_⟩) ?_
         go_simp
         refine hKq.out _ _ (by (try dsimp only)<;>(trivial)) (fun hHeld=>?_)
         clear hKq Kq
         (try simp only [q1,q2,q3,Act.put,q4,q5,q6])
         refine wpAnyH_ready (rs:=[1]) (by kernel_rfl) (by simp) ?_
         refine AllReadyH.cons rfl (fun Kq hKq=>?_) ?_
         ·(try simp only [q1,q2,q3])
          refine step_fold (a:=⟨_,_⟩) ?_
          go_simp
          refine hKq.out _ _ (by (try dsimp only)<;>(trivial)) (fun hHeld=>?_)
          clear hKq Kq
          (try simp only [q1,q2,q3,Act.put,q4,q5,q6])
          refine wpAnyH_ready (rs:=[8]) (by kernel_rfl) (by simp) ?_
          refine AllReadyH.cons rfl (fun Kq hKq=>?_) ?_
          ·(try simp only [q1,q2,q3])
           refine step_fold (a:=⟨_,_⟩) ?_
           ((refine step_append_kd (d:=Kd.slice kAct) (by rfl) _ _ _ (by rfl) Tryz.underlying37 _ 24 infoActS rfl (by decide) (by decide) (by rfl) (Own.belowAll hP1.B (by repeat' first | exact Below.refl _ _ | apply Below.drew | refine bal ?_ _)) _ _ (by rfl) (Row.one_at (d:=Kd.slice kAct) (e:=116) (S:=fun k=>wr.heap.size≤k) (x:=acts) _ ⟨D,cd,rfl,hcd,hrw⟩ (by simp)) (fun k hk e=>by have:=hPc.lts.2.2.2 k e.symm;have:=hk1s;rcases hk with hk | hk;omega;first | omega | (simp at hk;omega)) (by have:=HCL.out;have:=HKL.out;simp;omega) (by have:=hP1.k.size;simp;omega) ?_;intro v2 w2 ho2 hg2 hv2;have hrp:=PAt.rpB (PAt.below hP1 (by repeat' first | exact Below.refl _ _ | apply Below.drew | refine bal ?_ _)) hg2;have q5:=cell_of_row _ _ 1 _ _ _ hrp;have q6:=froz_ hrp;have hP2:=PAt.setB (PAt.below hP1 (by repeat' first | exact Below.refl _ _ | apply Below.drew | refine bal ?_ _)) hg2 (ho2.mono (fun k hk=>by rcases hk with hk | hk | hk;exact hk;exact hPc.past (by have:=hk1s;omega);exact hPc.past (by have:=hk1s;simp at hk;omega)));simp at q5;obtain⟨Ac,cc,rfl,hcc,hrc⟩:=Own.row ho2;clear hrc))
           refine hKq.out _ _ (by (try dsimp only)<;>(trivial)) (fun hHeld=>?_)
           clear hKq Kq
           (try simp only [q1,q2,q3,Act.put,q4,q5,q6])
           refine wpAnyH_take (i:=9) (v:=_) rfl (by kernel_rfl) (by kernel_rfl) (by kernel_rfl) (fun _ _ _ h=>h) (Or.inl ⟨by rfl,by (intro w hSw;(try dsimp only at hSw);go_simp<;>with_reducible rfl)⟩) (by assumption) ?_
           (try simp only [q1,q2,q3,Act.put,q4,q5,q6])
           refine wpAnyH_ready (rs:=[10]) (by kernel_rfl) (by simp) ?_
           refine AllReadyH.cons rfl (fun Kq hKq=>?_) ?_
           ·(try simp only [q1,q2,q3])
            refine step_fold (a:=⟨_,_⟩) ?_
            go_simp
            refine hKq.out _ _ (by (try dsimp only)<;>(trivial)) (fun hHeld=>?_)
            clear hKq Kq
            (try simp only [q1,q2,q3,Act.put,q4,q5,q6])
            refine wpAnyH_done (by kernel_rfl) ?_ _
            refine NoPanic.normal ?_
            have hP9:=hP2.less (f':=F+950-100*(k+1)) (by omega)
            simp only [List.length_append,List.length_cons,List.length_nil,Nat.zero_add] at hP9
            go_wp2
            exact⟨⟨k+1,_,bds ++ [acts],by go_num,by have:=HKL.out;omega,by have:=HCL.out;simp;omega,hP9⟩,by have:=HKL.out;simp [intOf];omega⟩
           exact AllReadyH.nil
          exact AllReadyH.nil
         exact AllReadyH.nil
        exact AllReadyH.nil
       exact AllReadyH.nil
      ·have hkm:k=2+m:=by omega
       subst hkm
       have hPd:=hP.less (f':=F+500) (by omega)
       have hbl2:=Lib.hid hbl
       clear hkl hbl hP hk3
       obtain⟨gb,cab,hvb,hgb1,hgb2,hgb3,hcab⟩:=hPd.B.place (by have:=hbl2.out;omega)
       subst hvb
       go_wp2_with (first | (go_at_call 64;refine(pick_calls _ _ _ _ _ _ _ _ hPd.R (by omega)).mono ?_;rintro e w4 ⟨t,rfl,ht0,ht1,hRn,hk⟩;have hP4:=(PAt.pick hPd hRn hk).less (f':=F+450) (by omega);have s0:=hP4.c0;have s1:=hP4.c1;have hlt4:=hP4.lts;have hgb4:=Nat.lt_of_lt_of_le hgb2 hk.size;clear hRn hk hPd) | (go_at_call 66;refine(specProgOk_calls ⟨cs,bds⟩ _ _ _ _ _ (fun k=>wo.heap.size≤k) (rowC hP4) ((rowB hP4).mono fun k hk=>hk.1)).mono ?_;rintro e w5 ⟨rfl,hb5⟩;have hP5:=hP4.below hb5;have s2:=hP5.c0;have s3:=hP5.c1;have s4:=cell_of_row _ _ 0 _ _ _ hP5.r2;have s5:=cell_of_row _ _ 1 _ _ _ hP5.r2;have s6:=froz_ hP5.r2;simp at s4 s5))
       rotate_left
       ·exact bodyPost_ret (v:=.agg #[.slice Ac cs.length cac,.slice (some ⟨gb,0,none⟩) bds.length cab]) (by simp [results,Tryz.results99,go_sem,s4,s5,s6]) rfl (PAt.done (hP5.less (f':=f) (by have:=HF.out;omega)) _ _ _ ⟨by assumption,by have:=hcl2.out;show 1≤cs.length;omega⟩)
       ·exact⟨⟨j+1,by omega,by go_num,hP5.R.less (by have:=HF.out;omega),hP5.k,hP5.r2⟩,by simp [intOf];omega⟩
       ·have hlp4:=hP4.lts.2.1
        have hw1:IntKind.i64.wrap (2+(m:Int)-1)=2+(m:Int)-1:=IntWalk.i64_in _ (by omega)
        have hgne:gb≠wi.heap.size+1:=hgb3.2.2.1
        have hlen:=hbl2.out
        have hLi:(0:Int)<(bds.length:Int):=by omega
        have HLEN:=Lib.hid hlen
        clear hlen
        refine wp_region_noPanic ?_
        refine wp_region_held_drew (S:=(fun w'=>w'.cell? ⟨wi.heap.size+1,1,none⟩=some (.slice (some ⟨gb,0,none⟩) bds.length cab))) (by kernel_rfl) (by (try dsimp only)<;>(first | (go_keep;done) | exact s2 | exact s3 | exact q9 _ _ _ | exact q8 _ _ _ | (simp [q8];done))) (fun hHeld=>?_)
        refine wpAnyH_take (i:=0) (v:=_) rfl (by kernel_rfl) (by kernel_rfl) (by kernel_rfl) (fun _ _ _ h=>h) (Or.inl ⟨by rfl,by (intro w hSw;(try dsimp only at hSw);go_simp<;>with_reducible rfl)⟩) (by assumption) ?_
        (try simp only [q1,q2,q3,Act.put,q4,q5,q6])
        refine wpAnyH_take (i:=1) (v:=_) rfl (by kernel_rfl) (by kernel_rfl) (by kernel_rfl) (fun _ _ _ h=>h) (Or.inl ⟨by rfl,by (intro w hSw;(try dsimp only at hSw);go_simp<;>with_reducible rfl)⟩) (by assumption) ?_
        (try simp only [q1,q2,q3,Act.put,q4,q5,q6])
        refine wpAnyH_take (i:=2) (v:=_) rfl (by kernel_rfl) (by kernel_rfl) (by kernel_rfl) (fun _ _ _ h=>h) (Or.inl ⟨by rfl,by (intro w hSw;(try dsimp only at hSw);go_simp<;>with_reducible rfl)⟩) (by assumption) ?_
        (try simp only [q1,q2,q3,Act.put,q4,q5,q6])
        refine wpAnyH_take (i:=3) (v:=_) rfl (by kernel_rfl) (by kernel_rfl) (by kernel_rfl) (fun _ _ _ h=>h) (Or.inl ⟨by rfl,by (intro w hSw;(try dsimp only at hSw);go_simp<;>with_reducible rfl)⟩) (by assumption) ?_
        (try simp only [q1,q2,q3,Act.put,q4,q5,q6])
        refine wpAnyH_take (i:=4) (v:=_) rfl (by kernel_rfl) (by kernel_rfl) (by kernel_rfl) (fun _ _ _ h=>h) (Or.inl ⟨by rfl,by (intro w hSw;(try dsimp only at hSw);go_simp<;>with_reducible rfl)⟩) (by assumption) ?_
        (try simp only [q1,q2,q3,Act.put,q4,q5,q6])
        refine wpAnyH_take (i:=9) (v:=_) rfl (by kernel_rfl) (by kernel_rfl) (by kernel_rfl) (fun _ _ _ h=>h) (Or.inl ⟨by rfl,by (intro w hSw;(try dsimp only at hSw);go_simp<;>with_reducible rfl)⟩) (by assumption) ?_
        (try simp only [q1,q2,q3,Act.put,q4,q5,q6])
        refine wpAnyH_take (i:=10) (v:=_) rfl (by kernel_rfl) (by kernel_rfl) (by kernel_rfl) (fun _ _ _ h=>h) (Or.inl ⟨by rfl,by (intro w hSw;(try dsimp only at hSw);go_simp<;>with_reducible rfl)⟩) (by assumption) ?_
        (try simp only [q1,q2,q3,Act.put,q4,q5,q6])
        refine wpAnyH_ready (rs:=[5]) (by kernel_rfl) (by simp) ?_
        refine AllReadyH.cons rfl (fun Kq hKq=>?_) ?_
        ·(try simp only [q1,q2,q3])
         refine step_fold (a:=⟨_,_⟩) ?_
         go_simp
         first | (go_at_call 64;refine(pick_calls _ _ _ _ _ _ _ _ (PAt.R (PAt.below hP4 (by repeat' first | exact Below.refl _ _ | apply Below.drew | refine bal ?_ _))) (by omega)).mono ?_;rintro e w5 ⟨t2,rfl,ht20,ht21,hRn,hk⟩;have hw2:IntKind.i64.wrap (1+t2)=1+t2:=IntWalk.i64_in _ (by omega);have hP5:=PAt.pick (PAt.below hP4 (by repeat' first | exact Below.refl _ _ | apply Below.drew | refine bal ?_ _)) hRn hk;have s2:=hP5.c1;have hl5:=hP5.lts;have hz5:=hk.size;(try simp at hz5);have hl50:=hl5.2.1;clear hRn hk) | (go_at_call 140;refine(l71Deeds_calls _ _ _ _ _ _ _ _ (PAt.R (PAt.below hP5 (by repeat' first | exact Below.refl _ _ | apply Below.drew | refine bal ?_ _))) (by omega) (by omega)).mono ?_;rintro e w6 ⟨_,rfl,⟨ds,D,cd,rfl,hcd,hdl,hrd⟩,hRn,hk⟩;have hP6:=PAt.pick (PAt.below hP5 (by repeat' first | exact Below.refl _ _ | apply Below.drew | refine bal ?_ _)) hRn hk;have s3:=hP6.c1;have hl60:=hP6.lts.2.1;have hl61:=Nat.lt_succ_of_lt hl60;have q8:∀ (u:Value) (o1 o2:Obj),(((w6.setCell ⟨gb,0,none⟩ u).alloc o1).alloc o2).cell? ⟨wi.heap.size+1,1,none⟩=some (.slice (some ⟨gb,0,none⟩) bds.length cab):=(fun u o1 o2=>(Keep.cell (T:=fun k=>k=gb) (p:=⟨wi.heap.size+1,1,none⟩) (((Keep.setCell (T:=fun k=>k=gb) (p:=⟨gb,0,none⟩) (Keep.refl _ _) (fun _=>rfl) u).alloc o1).alloc o2) hl60 (Ne.symm hgne)).trans s3);have q9:∀ (u:Value) (o1 o2:Obj),(((w6.alloc o1).alloc o2).setCell ⟨gb,0,none⟩ u).cell? ⟨wi.heap.size+1,1,none⟩=some (.slice (some ⟨gb,0,none⟩) bds.length cab):=(fun u o1 o2=>(Keep.cell (T:=fun k=>k=gb) (p:=⟨wi.heap.size+1,1,none⟩) (Keep.setCell (T:=fun k=>k=gb) (p:=⟨gb,0,none⟩) (((Keep.refl _ _).alloc o1).alloc o2) (fun _=>rfl) u) hl60 (Ne.symm hgne)).trans s3);have hz6:=hk.size;(try simp at hz6);have hgb6:gb<w6.heap.size:=(by omega);obtain⟨⟨v7,s7⟩,s8⟩:=hP6.b0 (by have:=hbl2.out;omega);have hkid:=hk.blk (heap_alloc_new w5 (.cells #[.int .i64 1,.int .i64 (1+t2)] 3)) (by have:=hP5.gl;have:=hP5.k.size;omega);have hrs:=hrd.mono (S':=fun k=>w5.heap.size≤k) (fun k hk=>by first | omega | (simp at hk;omega));clear hRn hk) | (go_at_call 140;refine(l71Deeds_calls _ _ _ _ _ _ _ _ (PAt.R (PAt.below hP5 (by repeat' first | exact Below.refl _ _ | apply Below.drew | refine bal ?_ _))) (by omega) (by omega)).mono ?_;rintro e w6 ⟨_,rfl,⟨ds,D,cd,rfl,hcd,hdl,hrd⟩,hRn,hk⟩;have hP6:=PAt.pick (PAt.below hP5 (by repeat' first | exact Below.refl _ _ | apply Below.drew | refine bal ?_ _)) hRn hk;have s3:=hP6.c1;have hl60:=hP6.lts.2.1;have hl61:=Nat.lt_succ_of_lt hl60;have q8:∀ (u:Value) (o1 o2:Obj),(((w6.setCell ⟨gb,0,none⟩ u).alloc o1).alloc o2).cell? ⟨wi.heap.size+1,1,none⟩=some (.slice (some ⟨gb,0,none⟩) bds.length cab):=(fun u o1 o2=>(Keep.cell (T:=fun k=>k=gb) (p:=⟨wi.heap.size+1,1,none⟩) (((Keep.setCell (T:=fun k=>k=gb) (p:=⟨gb,0,none⟩) (Keep.refl _ _) (fun _=>rfl) u).alloc o1).alloc o2) hl60 (Ne.symm hgne)).trans s3);have q9:∀ (u:Value) (o1 o2:Obj),(((w6.alloc o1).alloc o2).setCell ⟨gb,0,none⟩ u).cell? ⟨wi.heap.size+1,1,none⟩=some (.slice (some ⟨gb,0,none⟩) bds.length cab):=(fun u o1 o2=>(Keep.cell (T:=fun k=>k=gb) (p:=⟨wi.heap.size+1,1,none⟩) (Keep.setCell (T:=fun k=>k=gb) (p:=⟨gb,0,none⟩) (((Keep.refl _ _).alloc o1).alloc o2) (fun _=>rfl) u) hl60 (Ne.symm hgne)).trans s3);have hz6:=hk.size;(try simp at hz6);have hgb6:gb<w6.heap.size:=(by omega);obtain⟨⟨v7,s7⟩,s8⟩:=hP6.b0 (by have:=hbl2.out;omega);have hrs:=hrd.mono (S':=fun k=>w5.heap.size≤k) (fun k hk=>by first | omega | (simp at hk;omega));clear hRn hk)
         refine hKq.out _ _ (by (try dsimp only)<;>(first | (go_keep;done) | exact s2 | exact s3 | exact q9 _ _ _ | exact q8 _ _ _ | (simp [q8];done))) (fun hHeld=>?_)
         clear hKq Kq
         (try simp only [q1,q2,q3,Act.put,q4,q5,q6])
         refine wpAnyH_take (i:=6) (v:=_) rfl (by kernel_rfl) (by kernel_rfl) (by kernel_rfl) (fun _ _ _ h=>h) (Or.inl ⟨by rfl,by (intro w hSw;(try dsimp only at hSw);go_simp<;>with_reducible rfl)⟩) (by assumption) ?_
         (try simp only [q1,q2,q3,Act.put,q4,q5,q6])
         refine wpAnyH_ready (rs:=[7,11]) (by kernel_rfl) (by simp) ?_
         refine AllReadyH.cons rfl (fun Kq hKq=>?_) ?_
         ·(try simp only [q1,q2,q3])
          refine step_fold (a:=⟨_,_⟩) ?_
          go_simp
          refine hKq.out _ _ (by (try dsimp only)<;>(first | (go_keep;done) | exact s2 | exact s3 | exact q9 _ _ _ | exact q8 _ _ _ | (simp [q8];done))) (fun hHeld=>?_)
          clear hKq Kq
          (try simp only [q1,q2,q3,Act.put,q4,q5,q6])
          refine wpAnyH_take (i:=8) (v:=_) rfl (by kernel_rfl) (by kernel_rfl) (by kernel_rfl) (fun _ _ _ h=>h) (Or.inl ⟨by rfl,by (intro w hSw;(try dsimp only at hSw);go_simp<;>with_reducible rfl)⟩) (by assumption) ?_
          (try simp only [q1,q2,q3,Act.put,q4,q5,q6])
          refine wpAnyH_ready (rs:=[11]) (by kernel_rfl) (by simp) ?_
          refine AllReadyH.cons rfl (fun Kq hKq=>?_) ?_
          ·(try simp only [q1,q2,q3])
           refine step_fold (a:=⟨_,_⟩) ?_
           go_simp
           first | (go_at_call 64;refine(pick_calls _ _ _ _ _ _ _ _ (PAt.R (PAt.below hP4 (by repeat' first | exact Below.refl _ _ | apply Below.drew | refine bal ?_ _))) (by omega)).mono ?_;rintro e w5 ⟨t2,rfl,ht20,ht21,hRn,hk⟩;have hw2:IntKind.i64.wrap (1+t2)=1+t2:=IntWalk.i64_in _ (by omega);have hP5:=PAt.pick (PAt.below hP4 (by repeat' first | exact Below.refl _ _ | apply Below.drew | refine bal ?_ _)) hRn hk;have s2:=hP5.c1;have hl5:=hP5.lts;have hz5:=hk.size;(try simp at hz5);have hl50:=hl5.2.1;clear hRn hk) | (go_at_call 140;refine(l71Deeds_calls _ _ _ _ _ _ _ _ (PAt.R (PAt.below hP5 (by repeat' first | exact Below.refl _ _ | apply Below.drew | refine bal ?_ _))) (by omega) (by omega)).mono ?_;rintro e w6 ⟨_,rfl,⟨ds,D,cd,rfl,hcd,hdl,hrd⟩,hRn,hk⟩;have hP6:=PAt.pick (PAt.below hP5 (by repeat' first | exact Below.refl _ _ | apply Below.drew | refine bal ?_ _)) hRn hk;have s3:=hP6.c1;have hl60:=hP6.lts.2.1;have hl61:=Nat.lt_succ_of_lt hl60;have q8:∀ (u:Value) (o1 o2:Obj),(((w6.setCell ⟨gb,0,none⟩ u).alloc o1).alloc o2).cell? ⟨wi.heap.size+1,1,none⟩=some (.slice (some ⟨gb,0,none⟩) bds.length cab):=(fun u o1 o2=>(Keep.cell (T:=fun k=>k=gb) (p:=⟨wi.heap.size+1,1,none⟩) (((Keep.setCell (T:=fun k=>k=gb) (p:=⟨gb,0,none⟩) (Keep.refl _ _) (fun _=>rfl) u).alloc o1).alloc o2) hl60 (Ne.symm hgne)).trans s3);have q9:∀ (u:Value) (o1 o2:Obj),(((w6.alloc o1).alloc o2).setCell ⟨gb,0,none⟩ u).cell? ⟨wi.heap.size+1,1,none⟩=some (.slice (some ⟨gb,0,none⟩) bds.length cab):=(fun u o1 o2=>(Keep.cell (T:=fun k=>k=gb) (p:=⟨wi.heap.size+1,1,none⟩) (Keep.setCell (T:=fun k=>k=gb) (p:=⟨gb,0,none⟩) (((Keep.refl _ _).alloc o1).alloc o2) (fun _=>rfl) u) hl60 (Ne.symm hgne)).trans s3);have hz6:=hk.size;(try simp at hz6);have hgb6:gb<w6.heap.size:=(by omega);obtain⟨⟨v7,s7⟩,s8⟩:=hP6.b0 (by have:=hbl2.out;omega);have hkid:=hk.blk (heap_alloc_new w5 (.cells #[.int .i64 1,.int .i64 (1+t2)] 3)) (by have:=hP5.gl;have:=hP5.k.size;omega);have hrs:=hrd.mono (S':=fun k=>w5.heap.size≤k) (fun k hk=>by first | omega | (simp at hk;omega));clear hRn hk) | (go_at_call 140;refine(l71Deeds_calls _ _ _ _ _ _ _ _ (PAt.R (PAt.below hP5 (by repeat' first | exact Below.refl _ _ | apply Below.drew | refine bal ?_ _))) (by omega) (by omega)).mono ?_;rintro e w6 ⟨_,rfl,⟨ds,D,cd,rfl,hcd,hdl,hrd⟩,hRn,hk⟩;have hP6:=PAt.pick (PAt.below hP5 (by repeat' first | exact Below.refl _ _ | apply Below.drew | refine bal ?_ _)) hRn hk;have s3:=hP6.c1;have hl60:=hP6.lts.2.1;have hl61:=Nat.lt_succ_of_lt hl60;have q8:∀ (u:Value) (o1 o2:Obj),(((w6.setCell ⟨gb,0,none⟩ u).alloc o1).alloc o2).cell? ⟨wi.heap.size+1,1,none⟩=some (.slice (some ⟨gb,0,none⟩) bds.length cab):=(fun u o1 o2=>(Keep.cell (T:=fun k=>k=gb) (p:=⟨wi.heap.size+1,1,none⟩) (((Keep.setCell (T:=fun k=>k=gb) (p:=⟨gb,0,none⟩) (Keep.refl _ _) (fun _=>rfl) u).alloc o1).alloc o2) hl60 (Ne.symm hgne)).trans s3);have q9:∀ (u:Value) (o1 o2:Obj),(((w6.alloc o1).alloc o2).setCell ⟨gb,0,none⟩ u).cell? ⟨wi.heap.size+1,1,none⟩=some (.slice (some ⟨gb,0,none⟩) bds.length cab):=(fun u o1 o2=>(Keep.cell (T:=fun k=>k=gb) (p:=⟨wi.heap.size+1,1,none⟩) (Keep.setCell (T:=fun k=>k=gb) (p:=⟨gb,0,none⟩) (((Keep.refl _ _).alloc o1).alloc o2) (fun _=>rfl) u) hl60 (Ne.symm hgne)).trans s3);have hz6:=hk.size;(try simp at hz6);have hgb6:gb<w6.heap.size:=(by omega);obtain⟨⟨v7,s7⟩,s8⟩:=hP6.b0 (by have:=hbl2.out;omega);have hrs:=hrd.mono (S':=fun k=>w5.heap.size≤k) (fun k hk=>by first | omega | (simp at hk;omega));clear hRn hk)
           refine hKq.out _ _ (by (try dsimp only)<;>(first | (go_keep;done) | exact s2 | exact s3 | exact q9 _ _ _ | exact q8 _ _ _ | (simp [q8];done))) (fun hHeld=>?_)
           clear hKq Kq
           (try simp only [q1,q2,q3,Act.put,q4,q5,q6])
           refine wpAnyH_take (i:=12) (v:=_) rfl (by kernel_rfl) (by kernel_rfl) (by kernel_rfl) (fun _ _ _ h=>h) (Or.inl ⟨by rfl,by (intro w hSw;(try dsimp only at hSw);go_simp<;>with_reducible rfl)⟩) (by assumption) ?_
           (try simp only [q1,q2,q3,Act.put,q4,q5,q6])
           refine wpAnyH_ready (rs:=[13]) (by kernel_rfl) (by simp) ?_
           refine AllReadyH.cons rfl (fun Kq hKq=>?_) ?_
           ·(try simp only [q1,q2,q3])
            refine step_fold (a:=⟨_,_⟩) ?_
            go_simp
            refine hKq.out _ _ (by (try dsimp only)<;>(first | (go_keep;done) | exact s2 | exact s3 | exact q9 _ _ _ | exact q8 _ _ _ | (simp [q8];done))) (fun hHeld=>?_)
            clear hKq Kq
            (try simp only [q1,q2,q3,Act.put,q4,q5,q6])
            refine wpAnyH_ready (rs:=[14]) (by kernel_rfl) (by simp) ?_
            refine AllReadyH.cons rfl (fun Kq hKq=>?_) ?_
            ·(try simp only [q1,q2,q3])
             refine step_fold (a:=⟨_,_⟩) ?_
             go_simp
             first | (refine hKq.out _ _ (by (try dsimp only)<;>(first | (go_keep;done) | exact s2 | exact s3 | exact q9 _ _ _ | exact q8 _ _ _ | (simp [q8];done))) (fun hHeld=>?_)) | (go_wp2_with fail;refine hKq.out _ _ (by (try dsimp only)<;>(first | (go_keep;done) | exact s2 | exact s3 | exact q9 _ _ _ | exact q8 _ _ _ | (simp [q8];done))) (fun hHeld=>?_))
             clear hKq Kq
             (try simp only [q1,q2,q3,Act.put,q4,q5,q6])
             refine wpAnyH_ready (rs:=[15]) (by kernel_rfl) (by simp) ?_
             refine AllReadyH.cons rfl (fun Kq hKq=>?_) ?_
             ·(try simp only [q1,q2,q3])
              refine step_fold (a:=⟨_,_⟩) ?_
              go_simp
              refine hKq.out _ _ (by (try dsimp only)<;>(first | (go_keep;done) | exact s2 | exact s3 | exact q9 _ _ _ | exact q8 _ _ _ | (simp [q8];done))) (fun hHeld=>?_)
              clear hKq Kq
              (try simp only [q1,q2,q3,Act.put,q4,q5,q6])
              refine wpAnyH_done (by kernel_rfl) ?_ _
              refine NoPanic.normal ?_
              have hkids:Row Kd.int w6 (fun k=>w5.heap.size≤k) (some ⟨w5.heap.size,0,none⟩) [1,1+t2]:=row_two hkid (Nat.le_refl _) (by unfold i64;omega) (by unfold i64;omega)
              have hrow:Row kAct (w6.alloc (.cells #[.int .i64 2,.slice none 0 0,.slice (some ⟨w5.heap.size,0,none⟩) 2 2,.int .i64 0,.int .i64 1,.slice D ds.length cd,.slice none 0 0,.int .i64 0] 120)) (fun k=>w5.heap.size≤k) (some ⟨w6.heap.size,0,none⟩) [⟨2,[],[1,1+t2],0⟩,⟨1,ds,[],0⟩] :=
               row_acts2 (heap_alloc_new w6 _) (by omega) (act_K_kids [1,1+t2] (Nat.le_refl _) (hkids.belowAll (bal (Below.refl _ _) _))) (act_K_deeds ds hcd (hrs.belowAll (bal (Below.refl _ _) _)))
              have hP7:=PAt.setB0 (hP6.al _) (by have:=HLEN.out;omega) _ (hrow.mono fun k hk=>⟨hP4.past (by omega),by omega⟩) (c':=2) (Nat.le_refl _)
              rw [World.setCell_alloc_past _ _ _ _ hgb6] at hP7
              generalize hbd:bds.set 0 _=bds' at hP7
              obtain⟨W7,hW7⟩:∃ W7:World,W7=(w6.setCell ⟨gb,0,none⟩ (.slice (some ⟨w6.heap.size,0,none⟩) 2 2)).alloc (.cells #[.int .i64 2,.slice none 0 0,.slice (some ⟨w5.heap.size,0,none⟩) 2 2,.int .i64 0,.int .i64 1,.slice D ds.length cd,.slice none 0 0,.int .i64 0] 120):=⟨_,rfl⟩
              have hP8:=hP7.less (f':=F) (by omega)
              clear hP7
              simp only [List.length_cons,List.length_nil,Nat.zero_add] at hP8
              rw [← hW7] at hP8 ⊢
              clear hW7
              have s0':=hP8.c0
              have s1':=hP8.c1
              clear s0 s1 s2 s3 s7 s8 q8 q9 hbd hkid hP6 hP5 hP4 hkids hrow hrs
              go_wp2_with (go_at_call 66;refine(specProgOk_calls ⟨cs,bds'⟩ _ _ _ _ _ (fun k=>wo.heap.size≤k) (rowC hP8) ((rowB hP8).mono fun k hk=>hk.1)).mono ?_;rintro e w7 ⟨rfl,hb7⟩;have hP9:=hP8.below hb7;have s2:=hP9.c0;have s3:=hP9.c1;have s4:=cell_of_row _ _ 0 _ _ _ hP9.r2;have s5:=cell_of_row _ _ 1 _ _ _ hP9.r2;have s6:=froz_ hP9.r2;simp at s4 s5)
              ·exact bodyPost_ret (v:=.agg #[.slice Ac cs.length cac,.slice (some ⟨gb,0,none⟩) bds'.length cab]) (by simp [results,Tryz.results99,go_sem,s4,s5,s6]) rfl (PAt.done (hP9.less (f':=f) (by have:=HF.out;omega)) _ _ _ ⟨by assumption,by have:=hcl2.out;show 1≤cs.length;omega⟩)
              ·exact⟨⟨j+1,by omega,by go_num,hP9.R.less (by have:=HF.out;omega),hP9.k,hP9.r2⟩,by simp [intOf];omega⟩
             exact AllReadyH.nil
            exact AllReadyH.nil
           exact AllReadyH.nil
          exact AllReadyH.nil
         refine AllReadyH.cons rfl (fun Kq hKq=>?_) ?_
         ·(try simp only [q1,q2,q3])
          refine step_fold (a:=⟨_,_⟩) ?_
          go_simp
          first | (go_at_call 64;refine(pick_calls _ _ _ _ _ _ _ _ (PAt.R (PAt.below hP4 (by repeat' first | exact Below.refl _ _ | apply Below.drew | refine bal ?_ _))) (by omega)).mono ?_;rintro e w5 ⟨t2,rfl,ht20,ht21,hRn,hk⟩;have hw2:IntKind.i64.wrap (1+t2)=1+t2:=IntWalk.i64_in _ (by omega);have hP5:=PAt.pick (PAt.below hP4 (by repeat' first | exact Below.refl _ _ | apply Below.drew | refine bal ?_ _)) hRn hk;have s2:=hP5.c1;have hl5:=hP5.lts;have hz5:=hk.size;(try simp at hz5);have hl50:=hl5.2.1;clear hRn hk) | (go_at_call 140;refine(l71Deeds_calls _ _ _ _ _ _ _ _ (PAt.R (PAt.below hP5 (by repeat' first | exact Below.refl _ _ | apply Below.drew | refine bal ?_ _))) (by omega) (by omega)).mono ?_;rintro e w6 ⟨_,rfl,⟨ds,D,cd,rfl,hcd,hdl,hrd⟩,hRn,hk⟩;have hP6:=PAt.pick (PAt.below hP5 (by repeat' first | exact Below.refl _ _ | apply Below.drew | refine bal ?_ _)) hRn hk;have s3:=hP6.c1;have hl60:=hP6.lts.2.1;have hl61:=Nat.lt_succ_of_lt hl60;have q8:∀ (u:Value) (o1 o2:Obj),(((w6.setCell ⟨gb,0,none⟩ u).alloc o1).alloc o2).cell? ⟨wi.heap.size+1,1,none⟩=some (.slice (some ⟨gb,0,none⟩) bds.length cab):=(fun u o1 o2=>(Keep.cell (T:=fun k=>k=gb) (p:=⟨wi.heap.size+1,1,none⟩) (((Keep.setCell (T:=fun k=>k=gb) (p:=⟨gb,0,none⟩) (Keep.refl _ _) (fun _=>rfl) u).alloc o1).alloc o2) hl60 (Ne.symm hgne)).trans s3);have q9:∀ (u:Value) (o1 o2:Obj),(((w6.alloc o1).alloc o2).setCell ⟨gb,0,none⟩ u).cell? ⟨wi.heap.size+1,1,none⟩=some (.slice (some ⟨gb,0,none⟩) bds.length cab):=(fun u o1 o2=>(Keep.cell (T:=fun k=>k=gb) (p:=⟨wi.heap.size+1,1,none⟩) (Keep.setCell (T:=fun k=>k=gb) (p:=⟨gb,0,none⟩) (((Keep.refl _ _).alloc o1).alloc o2) (fun _=>rfl) u) hl60 (Ne.symm hgne)).trans s3);have hz6:=hk.size;(try simp at hz6);have hgb6:gb<w6.heap.size:=(by omega);obtain⟨⟨v7,s7⟩,s8⟩:=hP6.b0 (by have:=hbl2.out;omega);have hkid:=hk.blk (heap_alloc_new w5 (.cells #[.int .i64 1,.int .i64 (1+t2)] 3)) (by have:=hP5.gl;have:=hP5.k.size;omega);have hrs:=hrd.mono (S':=fun k=>w5.heap.size≤k) (fun k hk=>by first | omega | (simp at hk;omega));clear hRn hk) | (go_at_call 140;refine(l71Deeds_calls _ _ _ _ _ _ _ _ (PAt.R (PAt.below hP5 (by repeat' first | exact Below.refl _ _ | apply Below.drew | refine bal ?_ _))) (by omega) (by omega)).mono ?_;rintro e w6 ⟨_,rfl,⟨ds,D,cd,rfl,hcd,hdl,hrd⟩,hRn,hk⟩;have hP6:=PAt.pick (PAt.below hP5 (by repeat' first | exact Below.refl _ _ | apply Below.drew | refine bal ?_ _)) hRn hk;have s3:=hP6.c1;have hl60:=hP6.lts.2.1;have hl61:=Nat.lt_succ_of_lt hl60;have q8:∀ (u:Value) (o1 o2:Obj),(((w6.setCell ⟨gb,0,none⟩ u).alloc o1).alloc o2).cell? ⟨wi.heap.size+1,1,none⟩=some (.slice (some ⟨gb,0,none⟩) bds.length cab):=(fun u o1 o2=>(Keep.cell (T:=fun k=>k=gb) (p:=⟨wi.heap.size+1,1,none⟩) (((Keep.setCell (T:=fun k=>k=gb) (p:=⟨gb,0,none⟩) (Keep.refl _ _) (fun _=>rfl) u).alloc o1).alloc o2) hl60 (Ne.symm hgne)).trans s3);have q9:∀ (u:Value) (o1 o2:Obj),(((w6.alloc o1).alloc o2).setCell ⟨gb,0,none⟩ u).cell? ⟨wi.heap.size+1,1,none⟩=some (.slice (some ⟨gb,0,none⟩) bds.length cab):=(fun u o1 o2=>(Keep.cell (T:=fun k=>k=gb) (p:=⟨wi.heap.size+1,1,none⟩) (Keep.setCell (T:=fun k=>k=gb) (p:=⟨gb,0,none⟩) (((Keep.refl _ _).alloc o1).alloc o2) (fun _=>rfl) u) hl60 (Ne.symm hgne)).trans s3);have hz6:=hk.size;(try simp at hz6);have hgb6:gb<w6.heap.size:=(by omega);obtain⟨⟨v7,s7⟩,s8⟩:=hP6.b0 (by have:=hbl2.out;omega);have hrs:=hrd.mono (S':=fun k=>w5.heap.size≤k) (fun k hk=>by first | omega | (simp at hk;omega));clear hRn hk)
          refine hKq.out _ _ (by (try dsimp only)<;>(first | (go_keep;done) | exact s2 | exact s3 | exact q9 _ _ _ | exact q8 _ _ _ | (simp [q8];done))) (fun hHeld=>?_)
          clear hKq Kq
          (try simp only [q1,q2,q3,Act.put,q4,q5,q6])
          refine wpAnyH_take (i:=12) (v:=_) rfl (by kernel_rfl) (by kernel_rfl) (by kernel_rfl) (fun _ _ _ h=>h) (Or.inl ⟨by rfl,by (intro w hSw;(try dsimp only at hSw);go_simp<;>with_reducible rfl)⟩) (by assumption) ?_
          (try simp only [q1,q2,q3,Act.put,q4,q5,q6])
          refine wpAnyH_ready (rs:=[7]) (by kernel_rfl) (by simp) ?_
          refine AllReadyH.cons rfl (fun Kq hKq=>?_) ?_
          ·(try simp only [q1,q2,q3])
           refine step_fold (a:=⟨_,_⟩) ?_
           go_simp
           refine hKq.out _ _ (by (try dsimp only)<;>(first | (go_keep;done) | exact s2 | exact s3 | exact q9 _ _ _ | exact q8 _ _ _ | (simp [q8];done))) (fun hHeld=>?_)
           clear hKq Kq
           (try simp only [q1,q2,q3,Act.put,q4,q5,q6])
           refine wpAnyH_take (i:=8) (v:=_) rfl (by kernel_rfl) (by kernel_rfl) (by kernel_rfl) (fun _ _ _ h=>h) (Or.inl ⟨by rfl,by (intro w hSw;(try dsimp only at hSw);go_simp<;>with_reducible rfl)⟩) (by assumption) ?_
           (try simp only [q1,q2,q3,Act.put,q4,q5,q6])
           refine wpAnyH_ready (rs:=[13]) (by kernel_rfl) (by simp) ?_
           refine AllReadyH.cons rfl (fun Kq hKq=>?_) ?_
           ·(try simp only [q1,q2,q3])
            refine step_fold (a:=⟨_,_⟩) ?_
            go_simp
            refine hKq.out _ _ (by (try dsimp only)<;>(first | (go_keep;done) | exact s2 | exact s3 | exact q9 _ _ _ | exact q8 _ _ _ | (simp [q8];done))) (fun hHeld=>?_)
            clear hKq Kq
            (try simp only [q1,q2,q3,Act.put,q4,q5,q6])
            refine wpAnyH_ready (rs:=[14]) (by kernel_rfl) (by simp) ?_
            refine AllReadyH.cons rfl (fun Kq hKq=>?_) ?_
            ·(try simp only [q1,q2,q3])
             refine step_fold (a:=⟨_,_⟩) ?_
             go_simp
             first | (refine hKq.out _ _ (by (try dsimp only)<;>(first | (go_keep;done) | exact s2 | exact s3 | exact q9 _ _ _ | exact q8 _ _ _ | (simp [q8];done))) (fun hHeld=>?_)) | (go_wp2_with fail;refine hKq.out _ _ (by (try dsimp only)<;>(first | (go_keep;done) | exact s2 | exact s3 | exact q9 _ _ _ | exact q8 _ _ _ | (simp [q8];done))) (fun hHeld=>?_))
             clear hKq Kq
             (try simp only [q1,q2,q3,Act.put,q4,q5,q6])
             refine wpAnyH_ready (rs:=[15]) (by kernel_rfl) (by simp) ?_
             refine AllReadyH.cons rfl (fun Kq hKq=>?_) ?_
             ·(try simp only [q1,q2,q3])
              refine step_fold (a:=⟨_,_⟩) ?_
              go_simp
              refine hKq.out _ _ (by (try dsimp only)<;>(first | (go_keep;done) | exact s2 | exact s3 | exact q9 _ _ _ | exact q8 _ _ _ | (simp [q8];done))) (fun hHeld=>?_)
              clear hKq Kq
              (try simp only [q1,q2,q3,Act.put,q4,q5,q6])
              refine wpAnyH_done (by kernel_rfl) ?_ _
              refine NoPanic.normal ?_
              have hkids:Row Kd.int (w6.alloc (.cells #[.int .i64 1,.int .i64 (1+t2)] 3)) (fun k=>w5.heap.size≤k) (some ⟨w6.heap.size,0,none⟩) [1,1+t2]:=row_two (heap_alloc_new w6 _) (by omega) (by unfold i64;omega) (by unfold i64;omega)
              have hrow:Row kAct ((w6.alloc (.cells #[.int .i64 1,.int .i64 (1+t2)] 3)).alloc (.cells #[.int .i64 2,.slice none 0 0,.slice (some ⟨w6.heap.size,0,none⟩) 2 2,.int .i64 0,.int .i64 1,.slice D ds.length cd,.slice none 0 0,.int .i64 0] 120)) (fun k=>w5.heap.size≤k) (some ⟨w6.heap.size+1,0,none⟩) [⟨2,[],[1,1+t2],0⟩,⟨1,ds,[],0⟩] :=
               row_acts2 (by have:=heap_alloc_new (w6.alloc (.cells #[.int .i64 1,.int .i64 (1+t2)] 3)) (.cells #[.int .i64 2,.slice none 0 0,.slice (some ⟨w6.heap.size,0,none⟩) 2 2,.int .i64 0,.int .i64 1,.slice D ds.length cd,.slice none 0 0,.int .i64 0] 120);simpa using this) (by omega) (act_K_kids [1,1+t2] (Nat.le_refl _) (hkids.belowAll (bal (Below.refl _ _) _))) (act_K_deeds ds hcd ((hrs.belowAll (bal (Below.refl _ _) _)).belowAll (bal (Below.refl _ _) _)))
              have hP7:=PAt.setB0 ((hP6.al _).al _) (by have:=HLEN.out;omega) _ (hrow.mono fun k hk=>⟨hP4.past (by omega),by omega⟩) (c':=2) (Nat.le_refl _)
              rw [World.setCell_alloc_past _ _ _ _ (by simp;omega),World.setCell_alloc_past _ _ _ _ hgb6] at hP7
              generalize hbd:bds.set 0 _=bds' at hP7
              obtain⟨W7,hW7⟩:∃ W7:World,W7=((w6.setCell ⟨gb,0,none⟩ (.slice (some ⟨w6.heap.size+1,0,none⟩) 2 2)).alloc (.cells #[.int .i64 1,.int .i64 (1+t2)] 3)).alloc (.cells #[.int .i64 2,.slice none 0 0,.slice (some ⟨w6.heap.size,0,none⟩) 2 2,.int .i64 0,.int .i64 1,.slice D ds.length cd,.slice none 0 0,.int .i64 0] 120):=⟨_,rfl⟩
              have hP8:=hP7.less (f':=F) (by omega)
              clear hP7
              simp only [List.length_cons,List.length_nil,Nat.zero_add] at hP8
              rw [← hW7] at hP8 ⊢
              clear hW7
              have s0':=hP8.c0
              have s1':=hP8.c1
              clear s0 s1 s2 s3 s7 s8 q8 q9 hbd hP6 hP5 hP4 hkids hrow hrs
              go_wp2_with (go_at_call 66;refine(specProgOk_calls ⟨cs,bds'⟩ _ _ _ _ _ (fun k=>wo.heap.size≤k) (rowC hP8) ((rowB hP8).mono fun k hk=>hk.1)).mono ?_;rintro e w7 ⟨rfl,hb7⟩;have hP9:=hP8.below hb7;have s2:=hP9.c0;have s3:=hP9.c1;have s4:=cell_of_row _ _ 0 _ _ _ hP9.r2;have s5:=cell_of_row _ _ 1 _ _ _ hP9.r2;have s6:=froz_ hP9.r2;simp at s4 s5)
              ·exact bodyPost_ret (v:=.agg #[.slice Ac cs.length cac,.slice (some ⟨gb,0,none⟩) bds'.length cab]) (by simp [results,Tryz.results99,go_sem,s4,s5,s6]) rfl (PAt.done (hP9.less (f':=f) (by have:=HF.out;omega)) _ _ _ ⟨by assumption,by have:=hcl2.out;show 1≤cs.length;omega⟩)
              ·exact⟨⟨j+1,by omega,by go_num,hP9.R.less (by have:=HF.out;omega),hP9.k,hP9.r2⟩,by simp [intOf];omega⟩
             exact AllReadyH.nil
            exact AllReadyH.nil
           exact AllReadyH.nil
          exact AllReadyH.nil
         exact AllReadyH.nil
        exact AllReadyH.nil
  ·have hq0:=cell_of_row _ _ 0 _ _ _ hb2
   have hq1:=cell_of_row _ _ 1 _ _ _ hb2
   have hq3:=froz_ hb2
   have hb2l:wo.heap.size<wr.heap.size:=(Array.getElem?_eq_some_iff.1 hb2).1
   simp at hq0 hq1
   obtain rfl:j=10:=by omega
   have hR9:=hRr.less (f':=f) (by omega)
   clear hRr hlt hR0
   have ha6:∀ o1 o2 o3 o4 o5 o6,Below wr.heap.size wr ((((((wr.alloc o1).alloc o2).alloc o3).alloc o4).alloc o5).alloc o6):=fun o1 o2 o3 o4 o5 o6=>bal (bal (bal (bal (bal (bal (Below.refl _ _) o1) o2) o3) o4) o5) o6
   have hp0:∀ o1 o2 o3 o4 o5 o6,((((((wr.alloc o1).alloc o2).alloc o3).alloc o4).alloc o5).alloc o6).cell? ⟨wo.heap.size,0,none⟩=some (.slice none 0 0):=fun o1 o2 o3 o4 o5 o6=>((ha6 o1 o2 o3 o4 o5 o6).cell hb2l).trans hq0
   have hp1:∀ o1 o2 o3 o4 o5 o6,((((((wr.alloc o1).alloc o2).alloc o3).alloc o4).alloc o5).alloc o6).cell? ⟨wo.heap.size,1,none⟩=some (.slice none 0 0):=fun o1 o2 o3 o4 o5 o6=>((ha6 o1 o2 o3 o4 o5 o6).cell hb2l).trans hq1
   have hp3:∀ o1 o2 o3 o4 o5 o6 (i:Nat),((((((wr.alloc o1).alloc o2).alloc o3).alloc o4).alloc o5).alloc o6).frozen? ⟨wo.heap.size,i,none⟩=false:=fun o1 o2 o3 o4 o5 o6 i=>((ha6 o1 o2 o3 o4 o5 o6).frozen hb2l).trans (hq3 i)
   have HA6:=fun o1 o2 o3 o4 o5 o6=>Lib.hid (ha6 o1 o2 o3 o4 o5 o6)
   clear ha6 hq0 hq1 hq3
   have hfall:∀ o1 o2 o3 o4 o5 o6 (k:Nat),((((((wr.alloc o1).alloc o2).alloc o3).alloc o4).alloc o5).alloc o6).heap[wr.heap.size+k]?=#[o1,o2,o3,o4,o5,o6][k]?:=fun o1 o2 o3 o4 o5 o6 k=>by
    simp only [World.alloc,Array.push_eq_append,Array.append_assoc]
    rw [Array.getElem?_append_right (by omega)]
    simp
   have hx:∀ o1 o2 o3 o4 o5 o6 u v,∀ W,W=(((((((wr.alloc o1).alloc o2).alloc o3).alloc o4).alloc o5).alloc o6).setCell ⟨wo.heap.size,0,none⟩ u).setCell ⟨wo.heap.size,1,none⟩ v →
     W.heap[wr.heap.size]?=some o1∧W.heap[wr.heap.size+1]?=some o2∧W.heap[wr.heap.size+1+1]?=some o3∧W.heap[wr.heap.size+1+1+1]?=some o4∧W.heap[wr.heap.size+1+1+1+1]?=some o5∧W.heap[wr.heap.size+1+1+1+1+1]?=some o6 ∧
     RdAt W g S A c bs f∧Keep (fun k=>k=g) wo W:=by
    intro o1 o2 o3 o4 o5 o6 u v W hW
    subst hW
    have hb:=(HA6 o1 o2 o3 o4 o5 o6).out
    have hk:Keep (fun k=>k=wo.heap.size) wr ((((((((wr.alloc o1).alloc o2).alloc o3).alloc o4).alloc o5).alloc o6).setCell ⟨wo.heap.size,0,none⟩ u).setCell ⟨wo.heap.size,1,none⟩ v):=Keep.set2 (Keep.of_belowAll _ hb) 0 1 u v
    have hh:∀ k,((((((((wr.alloc o1).alloc o2).alloc o3).alloc o4).alloc o5).alloc o6).setCell ⟨wo.heap.size,0,none⟩ u).setCell ⟨wo.heap.size,1,none⟩ v).heap[wr.heap.size+k]?=#[o1,o2,o3,o4,o5,o6][k]?:=fun k=>by
     rw [Below.heap_setCell _ _ _ _ (by simp;omega),Below.heap_setCell _ _ _ _ (by simp;omega)]
     exact hfall o1 o2 o3 o4 o5 o6 k
    exact⟨hh 0,hh 1,hh 2,hh 3,hh 4,hh 5,hR9.keep hk (by omega) (fun k hs _=>by have:=hR9.ne k hs;omega),hkr.then_ hk (fun i hi e=>by omega)⟩
   have HX:=fun o1 o2 o3 o4 o5 o6 u v W hW=>Lib.hid (hx o1 o2 o3 o4 o5 o6 u v W hW)
   clear hx hfall
   go_wp2
   obtain⟨h0,h1,h2,h3,h4,h5,h6,h7⟩:=(HX _ _ _ _ _ _ _ _ _ rfl).out
   exact bodyPost_ret (v:=.agg #[.slice (some ⟨wr.heap.size,0,none⟩) 1 1,.slice (some ⟨wr.heap.size+1+1+1+1+1,0,none⟩) 2 2]) (by simp [results,Tryz.results99,go_sem,hp0,hp1,hp3]) rfl ⟨_,rfl,fall_rows hwr h0 h1 h2 h3 h4 h5,h6,h7⟩
end Go.Proofs.YtjacjafmimgfcaaGreat
