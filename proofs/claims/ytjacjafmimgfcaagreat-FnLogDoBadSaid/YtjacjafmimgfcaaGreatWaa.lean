/- How data lie in memory: values of a kind, rows of them, rows of the call's own. Plain definitions and lemmas; no program in sight.; append, for rows of any kind: onto a row of the call's own, from a row that is read. -/
import Derived.Below
import Derived.Deep.Draws
import Derived.Deep.AppendLies
import Derived.Maps.AppendAt
import Derived.OwnWalk
import Derived.Laws.MakeOwn
import Derived.Laws.OwnMore
import Derived.Deep.OwnRows
import Derived.WalkKit
import Derived.KernelRfl
import Derived.RowKit3
import Derived.Deep.QuietTactic
import Derived.BigQuiet
import Derived.Laws.Rows
import Derived.Lib.Hide
import Derived.Outline
import Derived.Laws.Slices
import Derived.Laws.Entries
import Derived.WalkSpells
import Derived.RegionTactic
set_option linter.unusedVariables false
set_option linter.unusedSimpArgs false
namespace Go.Proofs.YtjacjafmimgfcaaGreat
open Go.RowKit
theorem q1 {α : Type} {xs : List α} {i : Nat} (h : i < xs.toArray.size) : xs.toArray[i] = xs[i]'(by simpa using h) := List.getElem_toArray h
theorem q2 {α : Type} (a : α) (l : List α) (h : 0 < (a :: l).length) : (a :: l)[0] = a := List.getElem_cons_zero ..
theorem q3 {α : Type} (a : α) (l : List α) (i : Nat) (h : i + 1 < (a :: l).length) : (a :: l)[i + 1] = l[i]'(Nat.lt_of_succ_lt_succ h) := List.getElem_cons_succ ..
theorem q4 {α : Type} (l : List α) (i : Nat) (a : α) : l.toArray.setIfInBounds i a = (l.set i a).toArray := List.setIfInBounds_toArray ..
theorem q5 {α : Type} (x : α) (l : List α) (a : α) : (x :: l).set 0 a = a :: l := List.set_cons_zero ..
theorem q6 {α : Type} (x : α) (l : List α) (n : Nat) (a : α) : (x :: l).set (n + 1) a = x :: l.set n a := List.set_cons_succ ..
theorem ret_int {k:IntKind}{a b:Int}(h:a=b):Ending.returned (.int k a)=.returned (.int k b):=by rw [h]
theorem ret_bool {a b:Bool}(h:a=b):Ending.returned (.bool a)=.returned (.bool b):=by rw [h]
theorem val_int {k:IntKind}{a b:Int}(h:a=b):Value.int k a=.int k b:=by rw [h]
theorem block_add (a:Addr)(n:Nat):(a.add n).block=a.block:=by unfold Addr.add;split<;>rfl
theorem add_add' (a:Addr)(i j:Nat):(a.add i).add j=a.add (i+j):=by
 unfold Addr.add
 by_cases hi:i=0<;>by_cases hj:j=0<;>simp [hi,hj,Nat.add_assoc]
theorem add_pos' (a:Addr)(i j:Nat)(hj:j≠0):a.add (i+j)=⟨(a.add i).block,(a.add i).off+j,none⟩:=by
 rw [← add_add'];simp [Addr.add,hj]
theorem below_drewN' {B:Nat}{a w:World}(h:Below B a w)(n:Nat):Below B a (w.drewN n):=⟨h.os,h.tape,h.output,h.size,h.block⟩
theorem below_then {B:Nat}{w w1 w2:World}(h:Below B w w1)(hB:B≤w1.heap.size)(k:Below w1.heap.size w1 w2):Below B w w2 :=
 h.trans (k.mono hB)
structure Kd (α:Type) where
 sz:Nat
 K:World→(Nat→Prop)→α→List Value→Prop
 len:∀ {w S x cs},K w S x cs→cs.length=sz
 one:∀ {w S x cs},K w S x cs→∀ u ∈ cs,u.oneCell'=true
 mono:∀ {w} {S S':Nat→Prop} {x cs},(∀ k,S k→S' k)→K w S x cs→K w S' x cs
 bound:∀ {w:World} {S x cs},K w S x cs→K w (fun k=>S k∧k<w.heap.size) x cs
 move:∀ {w w':World} {S x cs},(∀ k,S k→w'.heap[k]?=w.heap[k]?)→K w S x cs→K w' S x cs
def Row {α:Type} (d:Kd α) (w:World) (S:Nat→Prop) (A:Option Addr) (xs:List α):Prop :=
 xs.length≤9223372036854775807∧(xs≠[]→∃ ad,A=some ad∧S ad.block∧ad.block<w.heap.size ∧
  ∀ j x,xs[j]?=some x→∃ c,d.K w S x c∧∀ i u,c[i]?=some u→w.cell? (ad.add (j*d.sz+i))=some u)
section
variable {α:Type}{d:Kd α}{w w':World}{S S':Nat→Prop}{A:Option Addr}{xs:List α}{x:α}{cs:List Value}
theorem Kd.step (h:d.K w S x cs)(hm:∀ k,S k→k<w.heap.size→w'.heap[k]?=w.heap[k]?):d.K w' S x cs :=
 d.mono (fun _ hk=>hk.1) (d.move (fun k hk=>hm k hk.1 hk.2) (d.bound h))
theorem Kd.below {B:Nat}(h:d.K w S x cs)(hb:Below B w w')(hS:∀ k,S k→k<w.heap.size→k<B):d.K w' S x cs :=
 Kd.step h fun k h1 h2=>hb.block k (hS k h1 h2)
theorem Kd.belowAll (h:d.K w S x cs)(hb:Below w.heap.size w w'):d.K w' S x cs:=Kd.below h hb fun _ _ h=>h
theorem Row.nil (d:Kd α)(w:World)(S:Nat→Prop)(A:Option Addr):Row d w S A []:=⟨by simp,fun h=>absurd rfl h⟩
theorem Row.mono (hS:∀ k,S k→S' k)(h:Row d w S A xs):Row d w S' A xs :=
 ⟨h.1,fun hn=>by
  obtain⟨ad,e,hb,hl,hc⟩:=h.2 hn
  refine⟨ad,e,hS _ hb,hl,fun j x hj=>?_⟩
  obtain⟨c,hk,hcell⟩:=hc j x hj
  exact⟨c,d.mono hS hk,hcell⟩⟩
theorem Row.bound (h:Row d w S A xs):Row d w (fun k=>S k∧k<w.heap.size) A xs :=
 ⟨h.1,fun hn=>by
  obtain⟨ad,e,hb,hl,hc⟩:=h.2 hn
  refine⟨ad,e,⟨hb,hl⟩,hl,fun j x hj=>?_⟩
  obtain⟨c,hk,hcell⟩:=hc j x hj
  exact⟨c,d.bound hk,hcell⟩⟩
theorem lt_of_heap {w w':World}{k:Nat}(h:w'.heap[k]?=w.heap[k]?)(hk:k<w.heap.size):k<w'.heap.size:=by
 rcases Nat.lt_or_ge k w'.heap.size with hlt | hge
 ·exact hlt
 ·rw [Array.getElem?_eq_none hge,Array.getElem?_eq_getElem hk] at h;cases h
theorem Row.move (hm:∀ k,S k→w'.heap[k]?=w.heap[k]?)(h:Row d w S A xs):Row d w' S A xs :=
 ⟨h.1,fun hn=>by
  obtain⟨ad,e,hb,hl,hc⟩:=h.2 hn
  refine⟨ad,e,hb,lt_of_heap (hm _ hb) hl,fun j x hj=>?_⟩
  obtain⟨c,hk,hcell⟩:=hc j x hj
  exact⟨c,d.move hm hk,fun i u hu=>(World.cell?_of_block (w:=w) (by rw [block_add];exact hm _ hb)).trans (hcell i u hu)⟩⟩
theorem Row.step (h:Row d w S A xs)(hm:∀ k,S k→k<w.heap.size→w'.heap[k]?=w.heap[k]?):Row d w' S A xs :=
 Row.mono (fun _ hk=>hk.1) (Row.move (fun k hk=>hm k hk.1 hk.2) (Row.bound h))
theorem Row.below {B:Nat}(h:Row d w S A xs)(hb:Below B w w')(hS:∀ k,S k→k<w.heap.size→k<B):Row d w' S A xs :=
 Row.step h fun k h1 h2=>hb.block k (hS k h1 h2)
theorem Row.belowAll (h:Row d w S A xs)(hb:Below w.heap.size w w'):Row d w' S A xs:=Row.below h hb fun _ _ h=>h
theorem Row.drewN (h:Row d w S A xs)(n:Nat):Row d (w.drewN n) S A xs:=Row.move (w:=w) (w':=w.drewN n) (fun _ _=>rfl) h
theorem Kd.drewN (h:d.K w S x cs)(n:Nat):d.K (w.drewN n) S x cs:=d.move (w:=w) (w':=w.drewN n) (fun _ _=>rfl) h
theorem Row.get (h:Row d w S A xs){j:Nat}(hj:j<xs.length):∃ ad c,A=some ad∧S ad.block∧ad.block<w.heap.size∧d.K w S xs[j] c∧∀ i u,c[i]?=some u→w.cell? (ad.add (j*d.sz+i))=some u:=by
 obtain⟨ad,e,hb,hl,hc⟩:=h.2 (by rintro rfl;simp at hj)
 obtain⟨c,hk,hcell⟩:=hc j _ (List.getElem?_eq_getElem hj)
 exact⟨ad,c,e,hb,hl,hk,hcell⟩
end
namespace Kd
def scalar {α:Type} (enc:α→Value) (h1:∀ x,(enc x).oneCell'=true):Kd α where
 sz:=1
 K:=fun _ _ x cs=>cs=[enc x]
 len:=fun h=>by rw [h];rfl
 one:=fun h u hu=>by rw [h] at hu;rw [List.mem_singleton.1 hu];exact h1 _
 mono:=fun _ h=>h
 bound:=fun h=>h
 move:=fun _ h=>h
def int:Kd Int where
 sz:=1
 K:=fun _ _ x cs=>cs=[.int .i64 x]∧-9223372036854775808≤x∧x≤9223372036854775807
 len:=fun h=>by rw [h.1];rfl
 one:=fun h u hu=>by rw [h.1] at hu;rw [List.mem_singleton.1 hu];rfl
 mono:=fun _ h=>h
 bound:=fun h=>h
 move:=fun _ h=>h
def byte:Kd Int where
 sz:=1
 K:=fun _ _ x cs=>cs=[.int .u8 x]∧0≤x∧x≤255
 len:=fun h=>by rw [h.1];rfl
 one:=fun h u hu=>by rw [h.1] at hu;rw [List.mem_singleton.1 hu];rfl
 mono:=fun _ h=>h
 bound:=fun h=>h
 move:=fun _ h=>h
def slice {α:Type} (d:Kd α):Kd (List α) where
 sz:=1
 K:=fun w S xs cs=>∃ A c,cs=[.slice A xs.length c]∧xs.length≤c∧Row d w S A xs
 len:=by rintro w S x cs ⟨A,c,rfl,_⟩;rfl
 one:=by
  rintro w S x cs ⟨A,c,rfl,_⟩ u hu
  rw [List.mem_singleton.1 hu];rfl
 mono:=by rintro w S S' x cs hS ⟨A,c,rfl,hl,hr⟩;exact⟨A,c,rfl,hl,Row.mono hS hr⟩
 bound:=by rintro w S x cs ⟨A,c,rfl,hl,hr⟩;exact⟨A,c,rfl,hl,Row.bound hr⟩
 move:=by rintro w w' S x cs hm ⟨A,c,rfl,hl,hr⟩;exact⟨A,c,rfl,hl,Row.move hm hr⟩
def pair {α β:Type} (a:Kd α) (b:Kd β):Kd (α × β) where
 sz:=a.sz+b.sz
 K:=fun w S x cs=>∃ c0 c1,cs=c0 ++ c1∧a.K w S x.1 c0∧b.K w S x.2 c1
 len:=by rintro w S x cs ⟨c0,c1,rfl,h0,h1⟩;rw [List.length_append,a.len h0,b.len h1]
 one:=by
  rintro w S x cs ⟨c0,c1,rfl,h0,h1⟩ u hu
  rcases List.mem_append.1 hu with hu | hu
  ·exact a.one h0 u hu
  ·exact b.one h1 u hu
 mono:=by rintro w S S' x cs hS ⟨c0,c1,rfl,h0,h1⟩;exact⟨c0,c1,rfl,a.mono hS h0,b.mono hS h1⟩
 bound:=by rintro w S x cs ⟨c0,c1,rfl,h0,h1⟩;exact⟨c0,c1,rfl,a.bound h0,b.bound h1⟩
 move:=by rintro w w' S x cs hm ⟨c0,c1,rfl,h0,h1⟩;exact⟨c0,c1,rfl,a.move hm h0,b.move hm h1⟩
def iso {α β:Type} (d:Kd α) (f:β→α):Kd β where
 sz:=d.sz
 K:=fun w S x cs=>d.K w S (f x) cs
 len:=d.len
 one:=d.one
 mono:=d.mono
 bound:=d.bound
 move:=d.move
end Kd
/-! ### Rows of the call's own -/
def Own {α:Type} (d:Kd α) (e:Nat) (w:World) (base:Nat) (S:Nat→Prop) (v:Value) (xs:List α):Prop :=
 ∃ css:List (List Value),w.ownsRow base e d.sz v xs.length css.flatten∧css.length=xs.length∧(∀ k,v.ownBlock=some k→S k) ∧
  ∀ (j:Nat) (x:α),xs[j]?=some x→∃ c,css[j]?=some c∧d.K w (fun k=>S k∧some k≠v.ownBlock) x c
theorem flatten_at {sz:Nat}:∀ (css:List (List Value)),(∀ c ∈ css,c.length=sz)→∀ (j i:Nat)(c:List Value)(u:Value),css[j]?=some c→c[i]?=some u→css.flatten[j*sz+i]?=some u:=by
 intro css
 induction css with
 | nil=>intro _ j i c u h;simp at h
 | cons a r ih =>
  intro hl j i c u hj hi
  have ha:a.length=sz:=hl a (List.mem_cons_self ..)
  have hlt:i<c.length:=by rcases Nat.lt_or_ge i c.length with h | h;exact h;rw [List.getElem?_eq_none h] at hi;cases hi
  cases j with
  | zero =>
   simp at hj;subst hj
   rw [List.flatten_cons,List.getElem?_append_left (by omega)]
   simpa using hi
  | succ j =>
   have hj':r[j]?=some c:=by simpa using hj
   have:=ih (fun c hc=>hl c (List.mem_cons_of_mem _ hc)) j i c u hj' hi
   rw [List.flatten_cons,List.getElem?_append_right (by rw [ha,Nat.succ_mul];omega),ha]
   rw [← this];congr 1;rw [Nat.succ_mul];omega
section
variable {α:Type}{d:Kd α}{e:Nat}{w w':World}{base:Nat}{S S':Nat→Prop}{v:Value}{xs:List α}
theorem Own.nil (d:Kd α)(e:Nat)(w:World)(base:Nat)(S:Nat→Prop):Own d e w base S (.slice none 0 0) [] :=
 ⟨[],by simpa using World.ownsRow_nil w base e d.sz,rfl,fun k hk=>by simp [Value.ownBlock] at hk,fun j x h=>by simp at h⟩
theorem Own.lens (h:Own d e w base S v xs):∃ css:List (List Value),w.ownsRow base e d.sz v xs.length css.flatten∧css.length=xs.length∧(∀ c ∈ css,c.length=d.sz)∧(∀ k,v.ownBlock=some k→S k) ∧
  ∀ (j:Nat) (x:α),xs[j]?=some x→∃ c,css[j]?=some c∧d.K w (fun k=>S k∧some k≠v.ownBlock) x c:=by
 obtain⟨css,h1,h2,h3,h4⟩:=h
 refine⟨css,h1,h2,fun c hc=>?_,h3,h4⟩
 obtain⟨j,hj,rfl⟩:=List.mem_iff_getElem.1 hc
 obtain⟨c',hc',hk⟩:=h4 j _ (List.getElem?_eq_getElem (by omega))
 rw [List.getElem?_eq_getElem hj] at hc'
 injection hc' with hc'
 rw [hc'];exact d.len hk
theorem Own.slice (h:Own d e w base S v xs):∃ A c,v=.slice A xs.length c∧xs.length≤c:=by
 obtain⟨css,h1,_⟩:=h
 rcases h1.2 with ⟨rfl,h⟩ | ⟨g,cap,cur,rfl,_,_,hc,_⟩
 ·exact⟨none,0,by rw [h],by omega⟩
 ·exact⟨_,_,rfl,hc⟩
theorem Own.maxLen (h:Own d e w base S v xs):xs.length≤9223372036854775807:=by
 obtain⟨css,h1,_⟩:=h
 rcases h1.2 with ⟨rfl,h⟩ | ⟨g,cap,cur,rfl,_,_,hc,hm,_⟩
 ·omega
 ·simp only [_root_.Go.maxLen] at hm;omega
theorem Own.mono (hS:∀ k,S k→S' k)(h:Own d e w base S v xs):Own d e w base S' v xs:=by
 obtain⟨css,h1,h2,h3,h4⟩:=h
 refine⟨css,h1,h2,fun k hk=>hS k (h3 k hk),fun j x hj=>?_⟩
 obtain⟨c,hc,hk⟩:=h4 j x hj
 exact⟨c,hc,d.mono (fun k hk=>⟨hS k hk.1,hk.2⟩) hk⟩
theorem Own.blk (h:Own d e w base S v xs)(k:Nat)(hk:v.ownBlock=some k):base≤k∧k<w.heap.size∧S k:=by
 obtain⟨css,h1,_,h3,_⟩:=h
 exact⟨(h1.lt k hk).1,(h1.lt k hk).2,h3 k hk⟩
theorem Own.bound (h:Own d e w base S v xs):Own d e w base (fun k=>S k∧k<w.heap.size) v xs:=by
 have hb:=h.blk
 obtain⟨css,h1,h2,h3,h4⟩:=h
 refine⟨css,h1,h2,fun k hk=>⟨h3 k hk,(hb k hk).2.1⟩,fun j x hj=>?_⟩
 obtain⟨c,hc,hk⟩:=h4 j x hj
 exact⟨c,hc,d.mono (fun k hk=>⟨⟨hk.1.1,hk.2⟩,hk.1.2⟩) (d.bound hk)⟩
theorem owns_move {sz n:Nat}{ys:List Value}(h:w.ownsRow base e sz v n ys)(hm:∀ k,v.ownBlock=some k→w'.heap[k]?=w.heap[k]?):w'.ownsRow base e sz v n ys:=by
 obtain⟨h1,h2⟩:=h
 refine⟨h1,?_⟩
 rcases h2 with h2 | ⟨g,cap,cur,rfl,hg,hh,r⟩
 ·exact .inl h2
 ·exact .inr ⟨g,cap,cur,rfl,hg,(hm g (by simp [Value.ownBlock])).trans hh,r⟩
theorem Own.move (hm:∀ k,S k→w'.heap[k]?=w.heap[k]?)(h:Own d e w base S v xs):Own d e w' base S v xs:=by
 obtain⟨css,h1,h2,h3,h4⟩:=h
 refine⟨css,owns_move h1 (fun k hk=>hm k (h3 k hk)),h2,h3,fun j x hj=>?_⟩
 obtain⟨c,hc,hk⟩:=h4 j x hj
 exact⟨c,hc,d.move (fun k hk=>hm k hk.1) hk⟩
theorem Own.step (h:Own d e w base S v xs)(hm:∀ k,S k→k<w.heap.size→w'.heap[k]?=w.heap[k]?):Own d e w' base S v xs :=
 Own.mono (fun _ hk=>hk.1) (Own.move (fun k hk=>hm k hk.1 hk.2) (Own.bound h))
theorem Own.belowAll (h:Own d e w base S v xs)(hb:Below w.heap.size w w'):Own d e w' base S v xs:=h.step fun k _ h2=>hb.block k h2
theorem Own.lower {base':Nat}(hb:base'≤base)(h:Own d e w base S v xs):Own d e w base' S v xs:=by
 obtain⟨css,⟨l1,l2⟩,h2,h3,h4⟩:=h
 refine⟨css,⟨l1,?_⟩,h2,h3,h4⟩
 rcases l2 with l2 | ⟨g,cap,cur,rfl,hg,r⟩
 ·exact .inl l2
 ·exact .inr ⟨g,cap,cur,rfl,Nat.le_trans hb hg,r⟩
theorem Own.drewN (h:Own d e w base S v xs)(n:Nat):Own d e (w.drewN n) base S v xs:=Own.move (w:=w) (w':=w.drewN n) (fun _ _=>rfl) h
theorem Own.row (h:Own d e w base S v xs):∃ A c,v=.slice A xs.length c∧xs.length≤c∧Row d w S A xs:=by
 have hm:=h.maxLen
 have hb:=h.blk
 obtain⟨A,c,rfl,hc⟩:=h.slice
 obtain⟨css,h1,h2,hl,h3,h4⟩:=h.lens
 refine⟨A,c,rfl,hc,hm,fun hn=>?_⟩
 have hpos:0<xs.length:=List.length_pos_iff.2 hn
 obtain⟨g,cap,he,_,_⟩:=h1.form hpos
 injection he with he1 he2
 subst he1
 refine⟨_,rfl,h3 g rfl,(hb g rfl).2.1,fun j x hj=>?_⟩
 obtain⟨cc,hcc,hk⟩:=h4 j x hj
 exact⟨cc,d.mono (fun k hk=>hk.1) hk,fun i u hu=>h1.cells (g:=g) rfl _ _ (flatten_at css hl j i cc u hcc hu)⟩
end
end Go.Proofs.YtjacjafmimgfcaaGreat
namespace Go.Proofs.YtjacjafmimgfcaaGreat
open Go.RowKit
theorem own_intro {α:Type}{d:Kd α}{e:Nat}{w:World}{base:Nat}{S:Nat→Prop}{v:Value}{xs:List α}(css:List (List Value))(h:w.ownsRow base e d.sz v xs.length css.flatten)(hl:css.length=xs.length)
  (hS:∀ k,v.ownBlock=some k→S k) (hk:∀ (j:Nat) (x:α),xs[j]?=some x→∃ c,css[j]?=some c∧d.K w (fun k=>S k∧some k≠v.ownBlock) x c):Own d e w base S v xs:=⟨css,h,hl,hS,hk⟩
theorem Row.cells {α:Type}{d:Kd α}{w:World}{S:Nat→Prop}{A:Option Addr}{xs:List α}(h:Row d w S A xs) :
  ∃ css:List (List Value),css.length=xs.length∧(∀ c ∈ css,c.length=d.sz)∧(∀ (j:Nat) (x:α),xs[j]?=some x→∃ c,css[j]?=some c∧d.K w S x c) ∧
   (xs≠[]→∃ ad,A=some ad∧S ad.block∧ad.block<w.heap.size∧∀ j u,css.flatten[j]?=some u→w.cell? (ad.add j)=some u):=by
 by_cases hn:xs=[]
 ·subst hn
  exact⟨[],rfl,by simp,by simp,fun h=>absurd rfl h⟩
 ·obtain⟨ad,e,hb,hl,hc⟩:=h.2 hn
  have hall:∀ j:Fin xs.length,∃ c,d.K w S xs[j] c∧∀ i u,c[i]?=some u→w.cell? (ad.add (j*d.sz+i))=some u:=fun j=>hc j _ (List.getElem?_eq_getElem j.2)
  have hch:=fun j=>Classical.choose_spec (hall j)
  refine⟨List.ofFn fun j=>Classical.choose (hall j),by simp,?_,?_,fun _=>⟨ad,e,hb,hl,?_⟩⟩
  ·intro c hc
   obtain⟨j,rfl⟩:=(List.mem_ofFn).1 hc
   exact d.len (hch j).1
  ·intro j x hj
   have hjl:j<xs.length:=(List.getElem?_eq_some_iff.1 hj).1
   have hx:xs[j]=x:=(List.getElem?_eq_some_iff.1 hj).2
   subst hx
   exact⟨_,by rw [List.getElem?_ofFn];simp [hjl],(hch ⟨j,hjl⟩).1⟩
  ·intro j u hu
   have key:∀ (l:List (List Value)) (off:Nat),(∀ c ∈ l,c.length=d.sz)→(∀ (i:Nat) (c:List Value),l[i]?=some c→∀ q v,c[q]?=some v→w.cell? (ad.add ((off+i)*d.sz+q))=some v) →
     ∀ j u,l.flatten[j]?=some u→w.cell? (ad.add (off*d.sz+j))=some u:=by
    intro l
    induction l with
    | nil=>intro off _ _ j u h;simp at h
    | cons a r ih =>
     intro off h1 h2 j u hj
     have ha:=h1 a (List.mem_cons_self ..)
     rw [List.flatten_cons] at hj
     rcases Nat.lt_or_ge j a.length with hlt | hge
     ·rw [List.getElem?_append_left hlt] at hj
      have:=h2 0 a rfl j u hj
      simpa using this
     ·rw [List.getElem?_append_right hge] at hj
      have:=ih (off+1) (fun c hc=>h1 c (List.mem_cons_of_mem _ hc)) (fun i c hi q v hq=>by
       have:=h2 (i+1) c (by simpa using hi) q v hq
       rwa [show off+(i+1)=off+1+i from by omega] at this) (j-a.length) u hj
      rw [Nat.add_mul,Nat.one_mul] at this
      rwa [show off*d.sz+d.sz+(j-a.length)=off*d.sz+j from by omega] at this
   have:=key (List.ofFn fun j=>Classical.choose (hall j)) 0 (by
    intro c hc
    obtain⟨j,rfl⟩:=(List.mem_ofFn).1 hc
    exact d.len (hch j).1) (by
    intro i c hi q v hq
    have hil:i<xs.length:=by
     have:=(List.getElem?_eq_some_iff.1 hi).1
     simpa using this
    rw [List.getElem?_ofFn] at hi
    simp [hil] at hi
    subst hi
    have:=(hch ⟨i,hil⟩).2 q v hq
    simpa using this) j u hu
   simpa using this
section
variable {P:Program}{α:Type}{d:Kd α}{e:Nat}{w:World}{base:Nat}{S S2:Nat→Prop}{v:Value}{xs ys:List α}
theorem own_appended {css ccs:List (List Value)}{v':Value}{w':World}(hl1:css.length=xs.length)(hS1:∀ k,v.ownBlock=some k→S k)
  (hk1:∀ (j:Nat) (x:α),xs[j]?=some x→∃ c,css[j]?=some c∧d.K w (fun k=>S k∧some k≠v.ownBlock) x c)
  (hl2:ccs.length=ys.length) (hk2:∀ (j:Nat) (x:α),ys[j]?=some x→∃ c,ccs[j]?=some c∧d.K w S2 x c) (hne:∀ k,S2 k→some k≠v.ownBlock)
  (ho:w'.ownsRow base e d.sz v' (xs.length+ys.length) (css.flatten ++ ccs.flatten)) (hg:w.grownBy w' v.ownBlock) (hat:v'.ownBlock=v.ownBlock∨v'.ownBlock=some w.heap.size) :
  Own d e w' base (fun k=>S k∨S2 k∨k=w.heap.size) v' (xs ++ ys):=by
 have far:∀ (T:Nat→Prop) (x:α) (c:List Value),d.K w T x c→(∀ k,T k→some k≠v.ownBlock)→(∀ k,T k→S k∨S2 k)→d.K w' (fun k=>(S k∨S2 k∨k=w.heap.size)∧some k≠v'.ownBlock) x c:=by
  intro T x c hk h1 h2
  have hb:=d.bound hk
  have hm:=d.move (w':=w') (fun k hk=>hg.block k hk.2 (h1 k hk.1)) hb
  refine d.mono (fun k hk=>⟨(h2 k hk.1).elim .inl fun h=>.inr (.inl h),?_⟩) hm
  rcases hat with e | e
  ·rw [e];exact h1 k hk.1
  ·rw [e];intro h;injection h with h;omega
 refine own_intro (css ++ ccs) (by rw [List.length_append,List.flatten_append];exact ho) (by simp [hl1,hl2]) (fun k hk=>?_) (fun j x hj=>?_)
 ·rcases hat with e | e
  ·exact .inl (hS1 k (by rw [← e];exact hk))
  ·rw [e] at hk;injection hk with hk;exact .inr (.inr hk.symm)
 ·rcases Nat.lt_or_ge j xs.length with hlt | hge
  ·rw [List.getElem?_append_left hlt] at hj
   obtain⟨c,hc,hk⟩:=hk1 j x hj
   exact⟨c,by rw [List.getElem?_append_left (by omega)];exact hc,far _ x c hk (fun k h=>h.2) (fun k h=>.inl h.1)⟩
  ·rw [List.getElem?_append_right hge] at hj
   obtain⟨c,hc,hk⟩:=hk2 _ x hj
   exact⟨c,by rw [List.getElem?_append_right (by omega),hl1];exact hc,far _ x c hk hne (fun k h=>.inr h)⟩
theorem run_append_nil_src (t ty:TypeId)(i:TypeInfo)(ht:P.underlying t=some (.slice e))(hi:P.info? e=some i){n:Nat}{zs:List Value}(hown:w.ownsRow base e i.size v n zs)(A:Option Addr)(c:Nat)(hA:A=none) :
  (Builtin.append_ #[t,t] ty #[v,.slice A 0 c]).run P w=.ok v w:=by
 subst hA
 rcases hown.2 with ⟨rfl,rfl⟩ | ⟨g,cap,cur,rfl,_,_,hnc,_⟩
 ·simp [Builtin.append_,run_underlying ht,sizeOf,typeInfo,hi,Builtin.lenOf,Builtin.firstCells]
 ·simp [Builtin.append_,run_underlying ht,sizeOf,typeInfo,hi,Builtin.lenOf,Builtin.firstCells,hnc,storeCells]
theorem run_append_kd (t ty:TypeId)(ht:P.underlying t=some (.slice e))(z:Value)(bytes:Nat)(hinfo:(P.info? e).map (fun i=>(i.zero,i.size,i.bytes))=some (some z,d.sz,bytes))(hz:z.cells.size=d.sz)(hs0:0<d.sz)(hb0:0<bytes)
  (HO:Own d e w base S v xs) (A:Option Addr) (c:Nat) (HR:Row d w S2 A ys) (hne:∀ k,S2 k→some k≠v.ownBlock) (hl:(xs.length+ys.length)*bytes≤140737488355328) (hbase:base≤w.heap.size) :
  ∃ v' w',(Builtin.append_ #[t,t] ty #[v,.slice A ys.length c]).run P w=.ok v' w'∧Own d e w' base (fun k=>S k∨S2 k∨k=w.heap.size) v' (xs ++ ys)∧w.grownBy w' v.ownBlock∧(v'.ownBlock=v.ownBlock∨v'.ownBlock=some w.heap.size):=by
 obtain⟨i0,hi,hzz⟩:=Option.map_eq_some_iff.1 hinfo
 simp only [Prod.mk.injEq] at hzz
 obtain⟨hz0,hz1,hz2⟩:=hzz
 have HO':=HO
 obtain⟨css,h1,h2,hcl,h3,h4⟩:=HO.lens
 obtain⟨ccs,g1,g2,g3,g4⟩:=HR.cells
 have hlen:xs.length+ys.length≤140737488355328:=Nat.le_trans (Nat.le_mul_of_pos_right _ hb0) hl
 have hflat:ccs.flatten.length=ys.length*d.sz:=by
  rw [List.length_flatten,← g1]
  have:ccs.map List.length=List.replicate ccs.length d.sz:=by
   rw [List.eq_replicate_iff];exact⟨by simp,fun b hb=>by obtain⟨c,hc,rfl⟩:=List.mem_map.1 hb;exact g2 c hc⟩
  rw [this];simp
 have hone:∀ u ∈ ccs.flatten,u.oneCell'=true:=by
  intro u hu
  obtain⟨c,hc,hu⟩:=List.mem_flatten.1 hu
  obtain⟨j,hj,rfl⟩:=List.mem_iff_getElem.1 hc
  obtain⟨c',hc',hk⟩:=g3 j _ (List.getElem?_eq_getElem (by omega))
  rw [List.getElem?_eq_getElem hj] at hc'
  injection hc' with hc'
  rw [← hc'] at hk
  exact d.one hk u hu
 cases A with
 | none =>
  have hy:ys=[]:=by
   rcases Classical.em (ys=[]) with h | h
   ·exact h
   ·obtain⟨ad,e,_⟩:=g4 h;cases e
  subst hy
  rw [← hz1] at h1
  refine⟨v,w,run_append_nil_src t ty i0 ht hi h1 none c rfl,?_,⟨rfl,rfl,rfl,Nat.le_refl _,fun _ _ _=>rfl⟩,.inl rfl⟩
  rw [List.append_nil]
  exact HO'.mono fun k hk=>.inl hk
 | some ad =>
  have hcells:∀ j u,ccs.flatten[j]?=some u→w.cell? (ad.add j)=some u:=by
   by_cases hy:ys=[]
   ·subst hy
    have:ccs=[]:=List.eq_nil_of_length_eq_zero (by simpa using g1)
    subst this
    intro j u h;simp at h
   ·obtain⟨ad',e',_,_,hc⟩:=g4 hy
    injection e' with e'
    subst e'
    exact hc
  obtain⟨v',w',hr,hown,hg,_,hat⟩:=run_append_own_at (P:=P) w base t ty e i0 z d.sz bytes ht hi hz0 hz1 hz2 hz hs0 v xs.length css.flatten h1 ad ys.length c ccs.flatten hflat hcells hone (by simp only [maxLen];omega) hl hbase
  exact⟨v',w',hr,own_appended h2 h3 h4 g1 g3 hne hown hg hat,hg,hat⟩
theorem wp_append_kd {o:Oper}{a:Go.Act}{K:Go.Act→World→Prop}{Q:Exit→Go.Act→World→Prop}(s x:Operand)(t:TypeId)(ho:o.op=.call { callee:=.builtin .append,args:=#[s,x],argTypes:=#[t,t] })
  (ht:P.underlying t=some (.slice e)) (z:Value) (bytes:Nat) (hinfo:(P.info? e).map (fun i=>(i.zero,i.size,i.bytes))=some (some z,d.sz,bytes)) (hz:z.cells.size=d.sz) (hs0:0<d.sz) (hb0:0<bytes)
  (hs:a.eval s=v) (HO:Own d e w base S v xs) (A:Option Addr) (c:Nat) (hx:a.eval x=.slice A ys.length c) (HR:Row d w S2 A ys) (hne:∀ k,S2 k→some k≠v.ownBlock) (hl:(xs.length+ys.length)*bytes≤140737488355328) (hbase:base≤w.heap.size)
  (h:∀ v' w',Own d e w' base (fun k=>S k∨S2 k∨k=w.heap.size) v' (xs ++ ys)→w.grownBy w' v.ownBlock→(v'.ownBlock=v.ownBlock∨v'.ownBlock=some w.heap.size)→K (a.put o.dst v') w'):o.wp P a w K Q:=by
 obtain⟨v',w',hrun,h2,h3,h4⟩:=run_append_kd (P:=P) t o.type ht z bytes hinfo hz hs0 hb0 HO A c HR hne hl hbase
 unfold Oper.wp execOp
 simp only [ho,resolve,invoke,builtin,Sem.run_bind,Sem.run_pure,Result.andThen_ok,List.map_toArray,List.map_cons,List.map_nil,hs,hx,hrun]
 exact h v' w' h2 h3 h4
theorem wpList_append_kd {ops:Array Oper}{rest:List Oper}{o:Oper}{a:Go.Act}{Q:Exit→Go.Act→World→Prop}(hgd:o.guard=none)(s x:Operand)(t:TypeId)(ho:o.op=.call { callee:=.builtin .append,args:=#[s,x],argTypes:=#[t,t] })
  (ht:P.underlying t=some (.slice e)) (z:Value) (bytes:Nat) (hinfo:(P.info? e).map (fun i=>(i.zero,i.size,i.bytes))=some (some z,d.sz,bytes)) (hz:z.cells.size=d.sz) (hs0:0<d.sz) (hb0:0<bytes)
  (hs:a.eval s=v) (HO:Own d e w base S v xs) (A:Option Addr) (c:Nat) (hx:a.eval x=.slice A ys.length c) (HR:Row d w S2 A ys) (hne:∀ k,S2 k→some k≠v.ownBlock) (hl:(xs.length+ys.length)*bytes≤140737488355328) (hbase:base≤w.heap.size)
  (h:∀ v' w',Own d e w' base (fun k=>S k∨S2 k∨k=w.heap.size) v' (xs ++ ys)→w.grownBy w' v.ownBlock→(v'.ownBlock=v.ownBlock∨v'.ownBlock=some w.heap.size)→wpList P ops Q rest (a.put o.dst v') w'):wpList P ops Q (o :: rest) a w :=
 wpList_plain hgd fun _ hK=>wp_append_kd s x t ho ht z bytes hinfo hz hs0 hb0 hs HO A c hx HR hne hl hbase fun v' w' h2 h3 h4=>hK _ _ (h v' w' h2 h3 h4)
theorem step_append_kd {ops:Array Oper}{o:Oper}{a:Go.Act}{K:Go.Act→World→Prop}{Q:Exit→Go.Act→World→Prop}{E:Prop}(hgd:o.guard=none)(s x:Operand)(t:TypeId)(ho:o.op=.call { callee:=.builtin .append,args:=#[s,x],argTypes:=#[t,t] })
  (ht:P.underlying t=some (.slice e)) (z:Value) (bytes:Nat) (hinfo:(P.info? e).map (fun i=>(i.zero,i.size,i.bytes))=some (some z,d.sz,bytes)) (hz:z.cells.size=d.sz) (hs0:0<d.sz) (hb0:0<bytes)
  (hs:a.eval s=v) (HO:Own d e w base S v xs) (A:Option Addr) (c:Nat) (hx:a.eval x=.slice A ys.length c) (HR:Row d w S2 A ys) (hne:∀ k,S2 k→some k≠v.ownBlock) (hl:(xs.length+ys.length)*bytes≤140737488355328) (hbase:base≤w.heap.size)
  (h:∀ v' w',Own d e w' base (fun k=>S k∨S2 k∨k=w.heap.size) v' (xs ++ ys)→w.grownBy w' v.ownBlock→(v'.ownBlock=v.ownBlock∨v'.ownBlock=some w.heap.size)→K (a.put o.dst v') w') :
  if Region.wanted o (yielded ops a.tmps)=true then Oper.wp P o a w K Q else E:=by
 have hw:Region.wanted o (yielded ops a.tmps)=true:=by simp [Region.wanted,hgd]
 rw [if_pos hw]
 exact wp_append_kd s x t ho ht z bytes hinfo hz hs0 hb0 hs HO A c hx HR hne hl hbase h
end
theorem Own.empty_ {α:Type}(d:Kd α)(e:Nat)(w:World)(base:Nat)(S:Nat→Prop)(hb:base≤w.heap.size)(hS:S w.heap.size) :
  Own d e (w.alloc (.cells #[] e)) base S (.slice (some ⟨w.heap.size,0,none⟩) 0 0) [] :=
 own_intro [] ⟨by simp,.inr ⟨w.heap.size,0,#[],rfl,hb,heap_alloc_new w _,Nat.le_refl _,by simp [maxLen],by simp,by simp⟩⟩ rfl (fun k hk=>by simp [Value.ownBlock] at hk;rw [← hk];exact hS) (fun j x hj=>by simp at hj)
theorem Row.one_ {α:Type}{d:Kd α}{e:Nat}{w:World}{S:Nat→Prop}{x:α}{cs:List Value}(h:d.K w S x cs):Row d (w.alloc (.cells cs.toArray e)) (fun k=>S k∨k=w.heap.size) (some ⟨w.heap.size,0,none⟩) [x]:=by
 refine⟨by simp,fun _=>⟨_,rfl,.inr rfl,by simp,fun j y hj=>?_⟩⟩
 have hj0:j=0:=by
  have:=(List.getElem?_eq_some_iff.1 hj).1
  simp at this;exact this
 subst hj0
 simp at hj
 subst hj
 have hb:=d.bound h
 refine⟨cs,d.mono (fun k hk=>.inl hk.1) (d.move (w':=w.alloc (.cells cs.toArray e)) (fun k hk=>Below.heap_alloc w _ k hk.2) hb),fun i u hu=>?_⟩
 rw [Nat.zero_mul,Nat.zero_add]
 have:=World.news_of_block (w:=w.alloc (.cells cs.toArray e)) (B:=w.heap.size) (cs:=cs.toArray) (t:=e) (fr:=(0,0)) (heap_alloc_new w _) i u (by simpa using hu)
 exact this
theorem wpList_clone_kd {P:Program}{α:Type}{d:Kd α}{e:Nat}{w1:World}{S:Nat→Prop}{ys:List α}{ops:Array Oper}{rest:List Oper}{o:Oper}{a:Go.Act}{Q:Exit→Go.Act→World→Prop}(hgd:o.guard=none)(s x:Operand)(t:TypeId)(ho:o.op=.call { callee:=.builtin .append,args:=#[s,x],argTypes:=#[t,t] })
  (ht:P.underlying t=some (.slice e)) (z:Value) (bytes:Nat) (hinfo:(P.info? e).map (fun i=>(i.zero,i.size,i.bytes))=some (some z,d.sz,bytes)) (hz:z.cells.size=d.sz) (hs0:0<d.sz) (hb0:0<bytes)
  (hs:a.eval s=.slice (some ⟨w1.heap.size,0,none⟩) 0 0) (A:Option Addr) (c:Nat) (hx:a.eval x=.slice A ys.length c) (HR:Row d w1 S A ys) (hl:ys.length*bytes≤140737488355328)
  (h:∀ v' w',Own d e w' w1.heap.size (fun k=>S k∨w1.heap.size≤k) v' ys→Below w1.heap.size w1 w'→wpList P ops Q rest (a.put o.dst v') w'):wpList P ops Q (o :: rest) a (w1.alloc (.cells #[] e)):=by
 have HR2:Row d (w1.alloc (.cells #[] e)) (fun k=>S k∧k<w1.heap.size) A ys:=HR.bound.belowAll ((Below.refl _ w1).alloc (Nat.le_refl _) _)
 refine wpList_append_kd (d:=d) (base:=w1.heap.size) (S:=fun k=>w1.heap.size≤k) (xs:=[]) hgd s x t ho ht z bytes hinfo hz hs0 hb0 hs (Own.empty_ d e w1 w1.heap.size _ (Nat.le_refl _) (Nat.le_refl _)) A c hx HR2 (fun k hk=>by have:=hk.2;simp [Value.ownBlock];omega) (by simpa using hl) (by simp) ?_
 intro v' w' h1 h2 h3
 refine h v' w' ?_ ?_
 ·rw [List.nil_append] at h1
  refine h1.mono fun k hk=>?_
  rcases hk with hk | hk | hk
  ·exact .inr hk
  ·exact .inl hk.1
  ·right;rw [hk];simp
 ·have hb:Below w1.heap.size w1 (w1.alloc (.cells #[] e)):=(Below.refl _ w1).alloc (Nat.le_refl _) _
  exact hb.grown h2 (by simp) (fun k hk=>by simp [Value.ownBlock] at hk;omega)
theorem step_clone_kd {P:Program}{α:Type}{d:Kd α}{e:Nat}(w1:World){W':World}(hW:W'=w1.alloc (.cells #[] e)){S:Nat→Prop}{ys:List α}{ops:Array Oper}{o:Oper}{a:Go.Act}{K:Go.Act→World→Prop}{Q:Exit→Go.Act→World→Prop}{E:Prop}(hgd:o.guard=none)(s x:Operand)(t:TypeId)(ho:o.op=.call { callee:=.builtin .append,args:=#[s,x],argTypes:=#[t,t] })
  (ht:P.underlying t=some (.slice e)) (z:Value) (bytes:Nat) (hinfo:(P.info? e).map (fun i=>(i.zero,i.size,i.bytes))=some (some z,d.sz,bytes)) (hz:z.cells.size=d.sz) (hs0:0<d.sz) (hb0:0<bytes)
  (hs:a.eval s=.slice (some ⟨w1.heap.size,0,none⟩) 0 0) (A:Option Addr) (c:Nat) (hx:a.eval x=.slice A ys.length c) (HR:Row d w1 S A ys) (hl:ys.length*bytes≤140737488355328)
  (h:∀ v' w',Own d e w' w1.heap.size (fun k=>S k∨w1.heap.size≤k) v' ys→Below w1.heap.size w1 w'→K (a.put o.dst v') w'):if Region.wanted o (yielded ops a.tmps)=true then Oper.wp P o a W' K Q else E:=by
 subst hW
 have HR2:Row d (w1.alloc (.cells #[] e)) (fun k=>S k∧k<w1.heap.size) A ys:=HR.bound.belowAll ((Below.refl _ w1).alloc (Nat.le_refl _) _)
 refine step_append_kd (d:=d) (base:=w1.heap.size) (S:=fun k=>w1.heap.size≤k) (xs:=[]) hgd s x t ho ht z bytes hinfo hz hs0 hb0 hs (Own.empty_ d e w1 w1.heap.size _ (Nat.le_refl _) (Nat.le_refl _)) A c hx HR2 (fun k hk=>by have:=hk.2;simp [Value.ownBlock];omega) (by simpa using hl) (by simp) ?_
 intro v' w' h1 h2 h3
 refine h v' w' ?_ ?_
 ·rw [List.nil_append] at h1
  refine h1.mono fun k hk=>?_
  rcases hk with hk | hk | hk
  ·exact .inr hk
  ·exact .inl hk.1
  ·right;rw [hk];simp
 ·have hb:Below w1.heap.size w1 (w1.alloc (.cells #[] e)):=(Below.refl _ w1).alloc (Nat.le_refl _) _
  exact hb.grown h2 (by simp) (fun k hk=>by simp [Value.ownBlock] at hk;omega)
end Go.Proofs.YtjacjafmimgfcaaGreat
