/- A system of one's own grows: a task, an entry is pushed.; A system of one's own: its beginning; a lower base.; A system of one's own whose log is empty: the log may lie elsewhere.; A system of one's own grows: a cell is pushed; one task made in one go. -/
import Derived.Test.YtjacjafmimgfcaaGreatWal
import Derived.Test.YtjacjafmimgfcaaGreatWap
import Derived.Test.YtjacjafmimgfcaaGreatWaz
set_option linter.unusedVariables false
set_option linter.unusedSimpArgs false
namespace Go.Proofs.YtjacjafmimgfcaaGreat
open Go.RowKit
section
variable {R:Nat→Role}{w w1:World}{base:Nat}{vc vt vl:Value}{s:Sys}{ts:List TV}{es:List EV}
theorem SysO.fresh (h:SysO R w base vc vt vl s ts es){k:Nat}(hk:w.heap.size≤k):R k=.no:=Classical.byContradiction fun h2=>by have:=h.lt k h2;omega
theorem SysO.pushT (h:SysO R w base vc vt vl s ts es){vt':Value}{y:TV}(hk:Keep (fun k=>vt.ownBlock=some k) w w1)(hl:OwnF kTV 118 w1 base vt' (ts ++ [y]))(hvl:∀ k,vt'.ownBlock=some k→vt.ownBlock=some k∨w.heap.size≤k)
  (hr:OwnF Kd.int 3 w1 base y.r y.t.regs) (ho:OwnF Kd.int 3 w1 base y.o y.t.old) (hd:OwnF kPut 127 w1 base y.d y.t.reads) (hu:OwnF kPut 127 w1 base y.u y.t.puts)
  (rn:∀ k,y.r.ownBlock=some k→w.heap.size≤k) (on:∀ k,y.o.ownBlock=some k→w.heap.size≤k) (dn:∀ k,y.d.ownBlock=some k→w.heap.size≤k) (un:∀ k,y.u.ownBlock=some k→w.heap.size≤k)
  (rl:∀ k,y.r.ownBlock=some k→vt'.ownBlock≠some k) (ol:∀ k,y.o.ownBlock=some k→vt'.ownBlock≠some k) (dl:∀ k,y.d.ownBlock=some k→vt'.ownBlock≠some k) (ul:∀ k,y.u.ownBlock=some k→vt'.ownBlock≠some k)
  (ro:∀ k,y.r.ownBlock=some k→y.o.ownBlock≠some k) (rd:∀ k,y.r.ownBlock=some k→y.d.ownBlock≠some k) (ru:∀ k,y.r.ownBlock=some k→y.u.ownBlock≠some k) (od:∀ k,y.o.ownBlock=some k→y.d.ownBlock≠some k) (ou:∀ k,y.o.ownBlock=some k→y.u.ownBlock≠some k) (du:∀ k,y.d.ownBlock=some k→y.u.ownBlock≠some k) :
  ∃ R',SysO R' w1 base vc vt' vl { s with tasks:=s.tasks ++ [y.t] } (ts ++ [y]) es∧∀ k,R' k≠.no→R k≠.no∨w.heap.size≤k:=by
 have hold:∀ k,vt.ownBlock=some k→R k=.tasks:=h.Rt
 have hfresh:∀ k,w.heap.size≤k→R k=.no:=fun k hk=>h.fresh hk
 have hvr:∀ k,vt'.ownBlock=some k→R k=.tasks∨R k=.no:=fun k e=>(hvl k e).imp (hold k) (hfresh k)
 let R':Nat→Role:=fun k=>if vt'.ownBlock=some k then .tasks else if y.r.ownBlock=some k then .tk ts.length 0 else if y.o.ownBlock=some k then .tk ts.length 1 else if y.d.ownBlock=some k then .tk ts.length 2 else if y.u.ownBlock=some k then .tk ts.length 3 else R k
 have hR:∀ k,R k≠.no→R' k=R k:=fun k e=>by
  simp only [R']
  by_cases e2:vt'.ownBlock=some k
  ·rw [if_pos e2];exact((hvr k e2).elim id (fun e3=>absurd e3 e)).symm
  ·rw [if_neg e2,if_neg (fun e3=>e (hfresh k (rn k e3))),if_neg (fun e3=>e (hfresh k (on k e3))),if_neg (fun e3=>e (hfresh k (dn k e3))),if_neg (fun e3=>e (hfresh k (un k e3)))]
 have f:∀ k r,R k=r→r≠.tasks→¬ (vt.ownBlock=some k):=fun k r e hr2 e2=>hr2 (by rw [← e,hold k e2])
 have nr:∀ {r:Role} {k},R k=r→r≠.no→R' k=r:=fun e hr=>(hR _ (by rw [e];exact hr)).trans e
 refine⟨R',?_,fun k e=>?_⟩
 ·refine⟨by rw [List.map_append,h.ets];rfl,h.ees,h.c.keep hk fun k e=>f k _ (h.Rc k e) Role.noConfusion,hl,h.l.keep hk fun k e=>f k _ (h.Rl k e) Role.noConfusion,fun k e=>nr (h.Rc k e) Role.noConfusion,fun k e=>if_pos e,fun k e=>nr (h.Rl k e) Role.noConfusion,fun i z hi=>?_,fun i z hi=>?_,fun k e=>?_,fun k e=>?_⟩
  ·rcases Nat.lt_or_ge i ts.length with hlt | hge
   ·rw [List.getElem?_append_left hlt] at hi
    exact TOwn.turn ((h.tt i z hi).keep hk fun q k e=>f k _ e Role.noConfusion) hR
   ·have hi0:i=ts.length:=by
     have:=(List.getElem?_eq_some_iff.1 hi).1
     simp at this;omega
    subst hi0
    rw [List.getElem?_append_right (Nat.le_refl _)] at hi
    simp at hi
    subst hi
    refine⟨hr,ho,hd,hu,fun k e=>?_,fun k e=>?_,fun k e=>?_,fun k e=>?_⟩
    ·simp only [R',if_neg (rl k e),if_pos e]
    ·simp only [R',if_neg (ol k e),if_neg (fun e2=>ro k e2 e),if_pos e]
    ·simp only [R',if_neg (dl k e),if_neg (fun e2=>rd k e2 e),if_neg (fun e2=>od k e2 e),if_pos e]
    ·simp only [R',if_neg (ul k e),if_neg (fun e2=>ru k e2 e),if_neg (fun e2=>ou k e2 e),if_neg (fun e2=>du k e2 e),if_pos e]
  ·exact EOwn.turn ((h.ee i z hi).keep hk fun q k e=>f k _ e Role.noConfusion) hR
  all_goals
   simp only [R'] at e
   by_cases e1:vt'.ownBlock=some k
   ·have:=hl.blk k e1;omega
   ·rw [if_neg e1] at e
    by_cases e2:y.r.ownBlock=some k
    ·have:=hr.blk k e2;omega
    ·rw [if_neg e2] at e
     by_cases e3:y.o.ownBlock=some k
     ·have:=ho.blk k e3;omega
     ·rw [if_neg e3] at e
      by_cases e4:y.d.ownBlock=some k
      ·have:=hd.blk k e4;omega
      ·rw [if_neg e4] at e
       by_cases e5:y.u.ownBlock=some k
       ·have:=hu.blk k e5;omega
       ·rw [if_neg e5] at e;have h1:=h.lt k e;have h2:=h.ge k e;have h3:=hk.size;omega
 ·simp only [R'] at e
  by_cases e1:vt'.ownBlock=some k
  ·rcases hvl k e1 with e3 | e3
   ·left;rw [hold k e3];exact Role.noConfusion
   ·exact .inr e3
  ·rw [if_neg e1] at e
   by_cases e2:y.r.ownBlock=some k
   ·exact .inr (rn k e2)
   ·rw [if_neg e2] at e
    by_cases e3:y.o.ownBlock=some k
    ·exact .inr (on k e3)
    ·rw [if_neg e3] at e
     by_cases e4:y.d.ownBlock=some k
     ·exact .inr (dn k e4)
     ·rw [if_neg e4] at e
      by_cases e5:y.u.ownBlock=some k
      ·exact .inr (un k e5)
      ·rw [if_neg e5] at e;exact .inl e
theorem SysO.pushE (h:SysO R w base vc vt vl s ts es){vl' d u:Value}{e:Entry}(hk:Keep (fun k=>vl.ownBlock=some k) w w1)(hl:OwnF kEV 68 w1 base vl' (es ++ [⟨e,d,u⟩]))(hvl:∀ k,vl'.ownBlock=some k→vl.ownBlock=some k∨w.heap.size≤k)
  (hd:OwnF kPut 127 w1 base d e.reads) (hu:OwnF kPut 127 w1 base u e.puts) (dn:∀ k,d.ownBlock=some k→w.heap.size≤k) (un:∀ k,u.ownBlock=some k→w.heap.size≤k)
  (du:∀ k,d.ownBlock=some k→u.ownBlock≠some k) (dl:∀ k,d.ownBlock=some k→vl'.ownBlock≠some k) (ul:∀ k,u.ownBlock=some k→vl'.ownBlock≠some k) :
  ∃ R',SysO R' w1 base vc vt vl' { s with log:=s.log ++ [e] } ts (es ++ [⟨e,d,u⟩])∧∀ k,R' k≠.no→R k≠.no∨w.heap.size≤k:=by
 have hold:∀ k,vl.ownBlock=some k→R k=.log:=h.Rl
 have hfresh:∀ k,w.heap.size≤k→R k=.no:=fun k hk=>h.fresh hk
 have hvr:∀ k,vl'.ownBlock=some k→R k=.log∨R k=.no:=fun k e=>(hvl k e).imp (hold k) (hfresh k)
 let R':Nat→Role:=fun k=>if vl'.ownBlock=some k then .log else if d.ownBlock=some k then .en es.length 0 else if u.ownBlock=some k then .en es.length 1 else R k
 have hR:∀ k,R k≠.no→R' k=R k:=fun k e=>by
  simp only [R']
  by_cases e2:vl'.ownBlock=some k
  ·rw [if_pos e2];exact((hvr k e2).elim id (fun e3=>absurd e3 e)).symm
  ·rw [if_neg e2,if_neg (fun e3=>e (hfresh k (dn k e3))),if_neg (fun e3=>e (hfresh k (un k e3)))]
 have f:∀ k r,R k=r→r≠.log→¬ (vl.ownBlock=some k):=fun k r e hr2 e2=>hr2 (by rw [← e,hold k e2])
 have nr:∀ {r:Role} {k},R k=r→r≠.no→R' k=r:=fun e hr=>(hR _ (by rw [e];exact hr)).trans e
 refine⟨R',?_,fun k e=>?_⟩
 ·refine⟨h.ets,by rw [List.map_append,h.ees];rfl,h.c.keep hk fun k e=>f k _ (h.Rc k e) Role.noConfusion,h.t.keep hk fun k e=>f k _ (h.Rt k e) Role.noConfusion,hl,fun k e=>nr (h.Rc k e) Role.noConfusion,fun k e=>nr (h.Rt k e) Role.noConfusion,fun k e=>if_pos e,fun i z hi=>?_,fun i z hi=>?_,fun k e=>?_,fun k e=>?_⟩
  ·exact TOwn.turn ((h.tt i z hi).keep hk fun q k e=>f k _ e Role.noConfusion) hR
  ·rcases Nat.lt_or_ge i es.length with hlt | hge
   ·rw [List.getElem?_append_left hlt] at hi
    exact EOwn.turn ((h.ee i z hi).keep hk fun q k e=>f k _ e Role.noConfusion) hR
   ·have hi0:i=es.length:=by
     have:=(List.getElem?_eq_some_iff.1 hi).1
     simp at this;omega
    subst hi0
    rw [List.getElem?_append_right (Nat.le_refl _)] at hi
    simp at hi
    subst hi
    refine⟨hd,hu,fun k e=>?_,fun k e=>?_⟩
    ·simp only [R',if_neg (dl k e),if_pos e]
    ·simp only [R',if_neg (ul k e),if_neg (fun e2=>du k e2 e),if_pos e]
  all_goals
   simp only [R'] at e
   by_cases e1:vl'.ownBlock=some k
   ·have:=hl.blk k e1;omega
   ·rw [if_neg e1] at e
    by_cases e2:d.ownBlock=some k
    ·have:=hd.blk k e2;omega
    ·rw [if_neg e2] at e
     by_cases e3:u.ownBlock=some k
     ·have:=hu.blk k e3;omega
     ·rw [if_neg e3] at e;have h1:=h.lt k e;have h2:=h.ge k e;have h3:=hk.size;omega
 ·simp only [R'] at e
  by_cases e1:vl'.ownBlock=some k
  ·rcases hvl k e1 with e3 | e3
   ·left;rw [hold k e3];exact Role.noConfusion
   ·exact .inr e3
  ·rw [if_neg e1] at e
   by_cases e2:d.ownBlock=some k
   ·exact .inr (dn k e2)
   ·rw [if_neg e2] at e
    by_cases e3:u.ownBlock=some k
    ·exact .inr (un k e3)
    ·rw [if_neg e3] at e;exact .inl e
end
end Go.Proofs.YtjacjafmimgfcaaGreat
namespace Go.Proofs.YtjacjafmimgfcaaGreat
open Go.RowKit
section
variable {R:Nat→Role}{w w1 w':World}{base base':Nat}{vc vt vl:Value}{s:Sys}{ts:List TV}{es:List EV}
theorem SysO.lower (hb:base'≤base)(h:SysO R w base vc vt vl s ts es):SysO R w base' vc vt vl s ts es :=
 ⟨h.ets,h.ees,h.c.lower hb,h.t.lower hb,h.l.lower hb,h.Rc,h.Rt,h.Rl,fun j x hj=>by
  have q:=h.tt j x hj
  exact⟨q.r.lower hb,q.o.lower hb,q.d.lower hb,q.u.lower hb,q.Rr,q.Ro,q.Rd,q.Ru⟩,fun j x hj=>by
  have q:=h.ee j x hj
  exact⟨q.d.lower hb,q.u.lower hb,q.Rd,q.Ru⟩,h.lt,fun k hk=>Nat.le_trans hb (h.ge k hk)⟩
theorem SysO.start {cs:List Cell}{clock:Int}(hc:OwnF kCell 130 w base vc cs)(ht:OwnF kTV 118 w base vt [])(hl:OwnF kEV 68 w base vl [])
  (ct:∀ k,vc.ownBlock=some k→vt.ownBlock≠some k) (cl:∀ k,vc.ownBlock=some k→vl.ownBlock≠some k) (tl:∀ k,vt.ownBlock=some k→vl.ownBlock≠some k) :
  ∃ R,SysO R w base vc vt vl ⟨cs,[],clock,[]⟩ [] []∧∀ k,R k≠.no→vc.ownBlock=some k∨vt.ownBlock=some k∨vl.ownBlock=some k:=by
 let R:Nat→Role:=fun k=>if vc.ownBlock=some k then .cells else if vt.ownBlock=some k then .tasks else if vl.ownBlock=some k then .log else .no
 have hR:∀ k,R k≠.no→vc.ownBlock=some k∨vt.ownBlock=some k∨vl.ownBlock=some k:=fun k hk=>by
  simp only [R] at hk
  split at hk
  ·exact .inl ‹_›
  ·split at hk
   ·exact .inr (.inl ‹_›)
   ·split at hk
    ·exact .inr (.inr ‹_›)
    ·exact absurd rfl hk
 have hw:∀ k,R k≠.no→base≤k∧k<w.heap.size:=fun k hk=>by
  rcases hR k hk with e | e | e
  ·exact hc.blk k e
  ·exact ht.blk k e
  ·exact hl.blk k e
 exact⟨R,⟨rfl,rfl,hc,ht,hl,fun k e=>if_pos e,fun k e=>by simp only [R];rw [if_neg (fun e2=>ct k e2 e),if_pos e],fun k e=>by simp only [R];rw [if_neg (fun e2=>cl k e2 e),if_neg (fun e2=>tl k e2 e),if_pos e],
  fun j x hj=>by simp at hj,fun j x hj=>by simp at hj,fun k hk=>(hw k hk).2,fun k hk=>(hw k hk).1⟩,hR⟩
end
def OwnB {α:Type} (d:Kd α) (e:TypeId) (w0 w:World) (b:Bool) (v:Value) (xs:List α):Prop:=b=true→OwnF d e w w0.heap.size v xs
def ApartX (b:Bool) (v:Value) (c:Bool) (k:Nat):Prop:=b=true→c=true→v.ownBlock≠some k
section
variable {α:Type}{d:Kd α}{e:TypeId}{w0 w w':World}{b c:Bool}{v:Value}{xs:List α}{k:Nat}{o:Obj}
theorem OwnB.alloc (h:OwnB d e w0 w b v xs)(o:Obj):OwnB d e w0 (w.alloc o) b v xs:=fun q=>(h q).belowAll (alB w o)
theorem OwnB.none {v:Value}:OwnB d e w0 w false v xs:=fun q=>by cases q
theorem ApartX.none:ApartX false v c k:=fun q=>by cases q
theorem ApartX.new (h:OwnB d e w0 w b v xs):ApartX b v c w.heap.size:=fun q _ e2=>by have:=(h q).blk _ e2;omega
theorem Made.keep {T:Nat→Prop}(h:Made w0 w c k o)(hk:Keep T w w')(hT:c=true→¬ T k):Made w0 w' c k o:=fun q=>⟨(h q).1,hk.blk (h q).2 (hT q)⟩
end
end Go.Proofs.YtjacjafmimgfcaaGreat
namespace Go.Proofs.YtjacjafmimgfcaaGreat
open Go.RowKit
theorem SysO.log0 {R:Nat→Role}{w:World}{base:Nat}{vc vt vl vl':Value}{s:Sys}{ts:List TV}(h:SysO R w base vc vt vl s ts [])(hl:OwnF kEV 68 w base vl' [])(hn:∀ k,vl'.ownBlock=some k→R k=.no) :
  ∃ R',SysO R' w base vc vt vl' s ts []∧∀ k,R' k≠.no→R k≠.no∨vl'.ownBlock=some k:=by
 let R':Nat→Role:=fun k=>if vl'.ownBlock=some k then .log else R k
 have hR:∀ k,R k≠.no→R' k=R k:=fun k hk=>if_neg fun e=>hk (hn k e)
 have f:∀ {k:Nat} {r:Role},R k=r→r≠.no→R' k=r:=fun e hr=>(hR _ (by rw [e];exact hr)).trans e
 have hc:∀ k,R' k≠.no→R k≠.no∨vl'.ownBlock=some k:=fun k hk=>by
  simp only [R'] at hk
  split at hk
  ·exact .inr ‹_›
  ·exact .inl hk
 refine⟨R',⟨h.ets,h.ees,h.c,h.t,hl,fun k e=>f (h.Rc k e) Role.noConfusion,fun k e=>f (h.Rt k e) Role.noConfusion,fun k e=>if_pos e,fun j x hj=>(h.tt j x hj).turn hR,fun j x hj=>by simp at hj,fun k hk=>?_,fun k hk=>?_⟩,hc⟩
 ·rcases hc k hk with e | e
  ·exact h.lt k e
  ·exact(hl.blk k e).2
 ·rcases hc k hk with e | e
  ·exact h.ge k e
  ·exact(hl.blk k e).1
end Go.Proofs.YtjacjafmimgfcaaGreat
namespace Go.Proofs.YtjacjafmimgfcaaGreat
open Go.RowKit
theorem SysO.pushC {R:Nat→Role}{w w1:World}{base:Nat}{vc vt vl vc':Value}{s:Sys}{ts:List TV}{es:List EV}{c:Cell}(h:SysO R w base vc vt vl s ts es)(hk:Keep (fun k=>vc.ownBlock=some k) w w1)(hl:OwnF kCell 130 w1 base vc' (s.cells ++ [c]))(hvl:∀ k,vc'.ownBlock=some k→vc.ownBlock=some k∨w.heap.size≤k) :
  ∃ R',SysO R' w1 base vc' vt vl { s with cells:=s.cells ++ [c] } ts es∧∀ k,R' k≠.no→R k≠.no∨w.heap.size≤k:=by
 have hold:∀ k,vc.ownBlock=some k→R k=.cells:=h.Rc
 have hfresh:∀ k,w.heap.size≤k→R k=.no:=fun k hk=>h.fresh hk
 have hvr:∀ k,vc'.ownBlock=some k→R k=.cells∨R k=.no:=fun k e=>(hvl k e).imp (hold k) (hfresh k)
 let R':Nat→Role:=fun k=>if vc'.ownBlock=some k then .cells else R k
 have hR:∀ k,R k≠.no→R' k=R k:=fun k e=>by
  simp only [R']
  by_cases e2:vc'.ownBlock=some k
  ·rw [if_pos e2];exact((hvr k e2).elim id (fun e3=>absurd e3 e)).symm
  ·rw [if_neg e2]
 have f:∀ k r,R k=r→r≠.cells→¬ (vc.ownBlock=some k):=fun k r e hr2 e2=>hr2 (by rw [← e,hold k e2])
 have nr:∀ {r:Role} {k},R k=r→r≠.no→R' k=r:=fun e hr=>(hR _ (by rw [e];exact hr)).trans e
 refine⟨R',?_,fun k e=>?_⟩
 ·refine⟨h.ets,h.ees,hl,h.t.keep hk fun k e=>f k _ (h.Rt k e) Role.noConfusion,h.l.keep hk fun k e=>f k _ (h.Rl k e) Role.noConfusion,fun k e=>if_pos e,fun k e=>nr (h.Rt k e) Role.noConfusion,fun k e=>nr (h.Rl k e) Role.noConfusion,fun i z hi=>?_,fun i z hi=>?_,fun k e=>?_,fun k e=>?_⟩
  ·exact TOwn.turn ((h.tt i z hi).keep hk fun q k e=>f k _ e Role.noConfusion) hR
  ·exact EOwn.turn ((h.ee i z hi).keep hk fun q k e=>f k _ e Role.noConfusion) hR
  all_goals
   simp only [R'] at e
   by_cases e1:vc'.ownBlock=some k
   ·have:=hl.blk k e1;omega
   ·rw [if_neg e1] at e
    have h1:=h.lt k e;have h2:=h.ge k e;have h3:=hk.size;omega
 ·simp only [R'] at e
  by_cases e1:vc'.ownBlock=some k
  ·rcases hvl k e1 with e3 | e3
   ·left;rw [hold k e3];exact Role.noConfusion
   ·exact .inr e3
  ·rw [if_neg e1] at e;exact .inl e
theorem own_one_tv {w:World}{B b:Nat}{y:TV}(h:w.heap[b]?=some (.cells y.enc.toArray 118 (0,0)))(hb:B≤b)(h1:y.r.oneCell'=true)(h2:y.o.oneCell'=true)(h3:y.d.oneCell'=true)(h4:y.u.oneCell'=true):OwnF kTV 118 w B (.slice (some ⟨b,0,none⟩) 1 1) [y]:=by
 refine OwnF.of plain_tv (S:=fun _=>True) (own_intro [y.enc] ⟨rfl,.inr ⟨b,1,_,rfl,hb,h,Nat.le_refl _,by simp [maxLen],rfl,by simp;exact List.take_of_length_le (by simp [TV.enc,encTask,kTV])⟩⟩ rfl (fun k hk=>trivial) (fun j x hj=>?_))
 have hj0:j=0:=by have:=(List.getElem?_eq_some_iff.1 hj).1;simp at this;omega
 subst hj0
 simp at hj
 subst hj
 exact⟨_,rfl,rfl,h1,h2,h3,h4⟩
end Go.Proofs.YtjacjafmimgfcaaGreat
