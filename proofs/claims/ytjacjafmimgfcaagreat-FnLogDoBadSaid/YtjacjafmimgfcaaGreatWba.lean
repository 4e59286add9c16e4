/- The reference's machine: tasks are begun. -/
import Derived.Test.YtjacjafmimgfcaaGreatWap
import Derived.Test.YtjacjafmimgfcaaGreatWaz
set_option linter.unusedVariables false
set_option linter.unusedSimpArgs false
namespace Go.Proofs.YtjacjafmimgfcaaGreat
open Go.RowKit
attribute [local go_sem ↓] Go.wp_at_zero Go.wp_at_succ
theorem infoTask:(Tryz.prog.info? 118).map (fun i=>(i.zero,i.size,i.bytes))=some (some (.agg #[.int .i64 0,.int .i64 0,.int .i64 0,.slice none 0 0,.int .i64 0,.int .i64 0,.int .i64 0,.int .i64 0,.slice none 0 0,.slice none 0 0,.slice none 0 0,.int .i64 0,.int .i64 0]),13,168):=by kernel_rfl
section
variable {m:Mc}{R:Nat→Role}{w w':World}{vc vt vl vt':Value}{s s':Sys}{ts:List TV}{es:List EV}
theorem MachO.restart (h:MachO m R w vc vt vl s ts es):MachO { m with R0:=R,w0:=w } R w vc vt vl s ts es:=⟨h.blk,h.run,h.sys,h.prg,Moved.refl _ _⟩
theorem MachO.join (h:MachO m R w vc vt vl s ts es)(h':Mach { m with R0:=R,w0:=w } s' vt' w'):Mach m s' vt' w'∧Below m.base w w':=by
 obtain⟨R',vc',vl',ts',es',h'⟩:=h'
 exact⟨⟨R',vc',vl',ts',es',h'.blk,h'.run,h'.sys,h'.prg,h.mv.trans h'.mv⟩,h'.mv.k.below (fun k hk e=>by have:=h.sys.ge k e;omega) h.bl⟩
end
theorem int_lit {w:World}{S:Nat→Prop}{A:Option Addr}{xs:List Int}{j:Nat}(h:Row Kd.int w S A xs)(hj:j<xs.length):∃ b o,A=some ⟨b,o,none⟩∧b<w.heap.size∧w.cell? ⟨b,o+j,none⟩=some (.int .i64 xs[j])∧i64 xs[j]∧S b:=by
 obtain⟨b,o,rfl,hSb,hl⟩:=h.lit (by decide) (by omega)
 obtain⟨ad,e,_,c0,c1⟩:=at_int h hj
 injection e with e
 subst e
 simp only [add_lit] at c0
 exact⟨b,o,rfl,hl,c0,c1,hSb⟩
def forkTo (s:Sys) (k:Nat) (kids:List Int) (n:Nat):Sys:={ s with tasks:=s.tasks ++ (kids.take n).map fun b=>newTask b k }
theorem forkTo_next (s:Sys)(k:Nat)(kids:List Int)(n:Nat)(h:n<kids.length):forkTo s k kids (n+1)={ forkTo s k kids n with tasks:=(forkTo s k kids n).tasks ++ [newTask kids[n] k] }:=by
 unfold forkTo
 rw [List.take_succ_eq_append_getElem h,List.map_append,← List.append_assoc]
 rfl
theorem forkTo_n (s:Sys)(k:Nat)(kids:List Int)(n:Nat)(h:n≤kids.length):(forkTo s k kids n).tasks.length=s.tasks.length+n:=by simp [forkTo];omega
theorem forkTo_all (s:Sys)(k:Nat)(kids:List Int):setWay (forkTo s k kids kids.length) k 1=forkS s k kids:=by unfold forkTo forkS;rw [List.take_length]
set_option maxHeartbeats 4000000 in
set_option maxRecDepth 100000 in
theorem fork_calls (m:Mc)(s:Sys)(vt:Value)(w:World)(k:Nat)(kids:List Int)(A:Option Addr)(ck:Nat)(S:Nat→Prop)(h:Mach m s vt w)(hk:k<s.tasks.length)(hn:s.tasks.length≤1000000)(hkl:kids.length≤1000)(hK:Row Kd.int w S A kids)(hS:∀ b,S b→b<m.base) :
  Calls Tryz.prog 157 #[.pointer (some ⟨m.g,0,none⟩),.int .i64 k,.slice A kids.length ck] w (fun e w'=>e=.returned (.tuple #[])∧∃ vt',Mach m (forkS s k kids) vt' w'):=by
 have HM:=Lib.hid h
 go_enter Tryz.func157,Tryz.ntmps157
 go_wp2
 go_loopw [6] (fun i wr=>∃ n:Nat,n≤kids.length∧i=.int .i64 n∧∃ vt',Mach m (forkTo s k kids n) vt' wr∧Below m.base w wr) (fun i _=>kids.length-(intOf i).toNat)
 case atStart=>exact⟨0,Nat.zero_le _,rfl,vt,by have:=HM.out;unfold forkTo;simpa using this,Below.refl _ _⟩
 case round =>
  obtain⟨n,hnk,rfl,vt',hr,hbr⟩:=hrel
  obtain⟨R,vc,vl,ts,es,H0⟩:=hr
  have H:=H0.restart
  have htn:=forkTo_n s k kids n hnk
  obtain⟨gt,cap,x,rfl,hcap,hRt,hbt,hlt,hne,hx,hxt,hat,hfz⟩:=H.task (j:=k) (by rw [htn];omega)
  obtain⟨g0,g1,g2,g3,g4,g5⟩:=H.cells
  have hgl:m.g<wr.heap.size:=H.gl
  have hfg:=H.frozen 3
  have hmax:=H.max
  have hbase:m.base≤wr.heap.size:=H.bl
  simp only [htn] at g3 hmax
  by_cases hlk:n<kids.length
  ·have hKr:=hK.below hbr (fun b hb _=>hS b hb)
   obtain⟨bk,ok,rfl,hbk,k0,_,hSb⟩:=int_lit hKr hlk
   have hbkg:bk<gt:=Nat.lt_of_lt_of_le (hS bk hSb) hbt
   have y1:(n:Int)<kids.length:=by omega
   have y3:(0:Int)≤n:=by omega
   have HV:Hid (∀ k',(Value.slice (some ⟨gt,0,none⟩) (s.tasks.length+n) cap).ownBlock=some k'→k'=gt):=Lib.hid fun k' e=>by simp [Value.ownBlock] at e;exact e.symm
   have htl:=H.sys.n
   rw [htn] at htl
   have hb1:Below wr.heap.size wr wr.drew:=(Below.refl _ _).drew
   have HO:=H.sys.t
   rw [htn] at HO
   have HH:=Lib.hid (And.intro H (And.intro H0 (And.intro htn (And.intro htl HO))))
   have HKN:=Lib.hid (And.intro hnk hlk)
   clear H H0 hat hfz hx hxt g0 g1 g2 g4 g5 htn htl hKr HO
   go_wp2_with fail
   refine wp_region_noPanic ?_
   refine wp_region_head 14 (fun w'=>w'.cell? ⟨m.g,3,none⟩=some (.slice (some ⟨gt,0,none⟩) (s.tasks.length+n) cap)∧w'.cell? ⟨bk,ok+n,none⟩=some (.int .i64 kids[n])) (by kernel_rfl) (by kernel_rfl) (by (try dsimp only)<;>(first | (go_keep;done) | (go_split_ands;exact⟨v1,v2⟩))) (fun hHeld=>?_)
   refine head_take (i:=0) (v:=_) (by kernel_rfl) rfl (by kernel_rfl) (by kernel_rfl) (by kernel_rfl) (fun _ _ _ h=>h) (Or.inl ⟨by rfl,by (intro w hSw;(try dsimp only at hSw);go_simp<;>with_reducible rfl)⟩) (by assumption) ?_
   (try simp only [q1,q2,q3,Act.put,q4,q5,q6])
   refine head_take (i:=1) (v:=_) (by kernel_rfl) rfl (by kernel_rfl) (by kernel_rfl) (by kernel_rfl) (fun _ _ _ h=>h) (Or.inl ⟨by rfl,by (intro w hSw;(try dsimp only at hSw);go_simp<;>with_reducible rfl)⟩) (by assumption) ?_
   (try simp only [q1,q2,q3,Act.put,q4,q5,q6])
   refine head_take (i:=2) (v:=_) (by kernel_rfl) rfl (by kernel_rfl) (by kernel_rfl) (by kernel_rfl) (fun _ _ _ h=>h) (Or.inl ⟨by rfl,by (intro w hSw;(try dsimp only at hSw);go_simp<;>with_reducible rfl)⟩) (by assumption) ?_
   (try simp only [q1,q2,q3,Act.put,q4,q5,q6])
   refine head_take (i:=3) (v:=_) (by kernel_rfl) rfl (by kernel_rfl) (by kernel_rfl) (by kernel_rfl) (fun _ _ _ h=>h) (Or.inl ⟨by rfl,by (intro w hSw;(try dsimp only at hSw);go_simp<;>with_reducible rfl)⟩) (by assumption) ?_
   (try simp only [q1,q2,q3,Act.put,q4,q5,q6])
   refine head_take (i:=4) (v:=_) (by kernel_rfl) rfl (by kernel_rfl) (by kernel_rfl) (by kernel_rfl) (fun _ _ _ h=>h) (Or.inl ⟨by rfl,by (intro w hSw;(try dsimp only at hSw);go_simp<;>with_reducible rfl)⟩) (by assumption) ?_
   (try simp only [q1,q2,q3,Act.put,q4,q5,q6])
   refine head_take (i:=5) (v:=_) (by kernel_rfl) rfl (by kernel_rfl) (by kernel_rfl) (by kernel_rfl) (fun _ _ _ h=>h) (Or.inl ⟨by rfl,by (intro w hSw;(try dsimp only at hSw);go_simp<;>with_reducible rfl)⟩) (by assumption) ?_
   (try simp only [q1,q2,q3,Act.put,q4,q5,q6])
   refine head_take (i:=6) (v:=_) (by kernel_rfl) rfl (by kernel_rfl) (by kernel_rfl) (by kernel_rfl) (fun _ _ _ h=>h) (Or.inl ⟨by rfl,by (intro w hSw;(try dsimp only at hSw);go_simp<;>with_reducible rfl)⟩) (by assumption) ?_
   (try simp only [q1,q2,q3,Act.put,q4,q5,q6])
   refine head_take (i:=7) (v:=_) (by kernel_rfl) rfl (by kernel_rfl) (by kernel_rfl) (by kernel_rfl) (fun _ _ _ h=>h) (Or.inl ⟨by rfl,by (intro w hSw;(try dsimp only at hSw);go_simp<;>with_reducible rfl)⟩) (by assumption) ?_
   (try simp only [q1,q2,q3,Act.put,q4,q5,q6])
   refine head_take (i:=8) (v:=_) (by kernel_rfl) rfl (by kernel_rfl) (by kernel_rfl) (by kernel_rfl) (fun _ _ _ h=>h) (Or.inl ⟨by rfl,by (intro w hSw;(try dsimp only at hSw);go_simp<;>with_reducible rfl)⟩) (by assumption) ?_
   (try simp only [q1,q2,q3,Act.put,q4,q5,q6])
   refine head_take (i:=9) (v:=_) (by kernel_rfl) rfl (by kernel_rfl) (by kernel_rfl) (by kernel_rfl) (fun _ _ _ h=>h) (Or.inl ⟨by rfl,by (intro w hSw;(try dsimp only at hSw);go_simp<;>with_reducible rfl)⟩) (by assumption) ?_
   (try simp only [q1,q2,q3,Act.put,q4,q5,q6])
   refine head_take (i:=10) (v:=_) (by kernel_rfl) rfl (by kernel_rfl) (by kernel_rfl) (by kernel_rfl) (fun _ _ _ h=>h) (Or.inl ⟨by rfl,by (intro w hSw;(try dsimp only at hSw);go_simp<;>with_reducible rfl)⟩) (by assumption) ?_
   (try simp only [q1,q2,q3,Act.put,q4,q5,q6])
   refine head_next (i:=11) rfl (by kernel_rfl) (by kernel_rfl) (fun Kq hKq=>?_)
   (try simp only [q1,q2,q3])
   refine step_hold (a:=⟨_,_⟩) ?_
   go_simp
   (refine(l11Task_calls kids[n] k _).mono ?_;rintro e w2 ⟨v,r,o,d,u,rfl,hN,hc2⟩;have hv:=hN.ev;subst hv;obtain⟨A1,c1,rfl,_⟩:=Own.slice hN.pr;obtain⟨A2,c2,rfl,_⟩:=Own.slice hN.po;obtain⟨A3,c3,rfl,_⟩:=Own.slice hN.pd;obtain⟨A4,c4,rfl,_⟩:=Own.slice hN.pu;have hb2:=below_then hb1 (Nat.le_refl _) hc2;have v1:=(hb2.cell (p:=⟨m.g,3,none⟩) hgl).trans g3;have v2:=(hb2.cell (p:=⟨bk,ok+n,none⟩) hbk).trans k0)
   refine hKq.out _ _ (by (try dsimp only)<;>(first | (go_keep;done) | (go_split_ands;exact⟨v1,v2⟩))) (fun hHeld=>?_)
   clear hKq Kq
   (try simp only [q1,q2,q3,Act.put,q4,q5,q6])
   refine head_next (i:=12) rfl (by kernel_rfl) (by kernel_rfl) (fun Kq hKq=>?_)
   (try simp only [q1,q2,q3])
   refine step_hold (a:=⟨_,_⟩) ?_
   go_simp
   refine hKq.out _ _ (by (try dsimp only)<;>(first | (go_keep;done) | (go_split_ands;exact⟨v1,v2⟩))) (fun hHeld=>?_)
   clear hKq Kq
   (try simp only [q1,q2,q3,Act.put,q4,q5,q6])
   refine head_next (i:=13) rfl (by kernel_rfl) (by kernel_rfl) (fun Kq hKq=>?_)
   (try simp only [q1,q2,q3])
   refine step_hold (a:=⟨_,_⟩) ?_
   (refine step_push (d:=kTV) (wr:=w2) (xs:=ts) (x:=⟨newTask kids[n] k,.slice A1 3 c1,.slice A2 3 c2,.slice A3 0 c3,.slice A4 0 c4⟩) plain_tv (by rfl) (Below.refl _ _) (OwnF.belowAll HH.out.2.2.2.2 hb2) (by have:=hb2.size;omega) (fun _ _=>⟨rfl,rfl,rfl,rfl,rfl⟩) w2.heap.size rfl rfl _ _ _ (by rfl) Tryz.underlying42 _ 168 infoTask rfl (by decide) (by decide) (by rfl) (by rfl) (by rw [HH.out.2.2.2.1];have:=HKN.out;omega) ?_;intro A5 c5 w4 ho4 hk4 hn4;have v1:=(hk4.cell (p:=⟨m.g,3,none⟩) (by show m.g<w2.heap.size;have:=hb2.size;omega) (fun e=>hne (HV.out _ e).symm)).trans v1;have v2:=(hk4.cell (p:=⟨bk,ok+n,none⟩) (by show bk<w2.heap.size;have:=hb2.size;omega) (fun e=>absurd (HV.out _ e) (Nat.ne_of_lt hbkg))).trans v2;have v3:=(hk4.frozen (p:=⟨m.g,3,none⟩) (by show m.g<w2.heap.size;have:=hb2.size;omega) (fun e=>hne (HV.out _ e).symm)).trans ((hb2.frozen (p:=⟨m.g,3,none⟩) hgl).trans hfg))
   refine hKq.out _ _ (by (try dsimp only)<;>(first | (go_keep;done) | (go_split_ands;exact⟨v1,v2⟩))) (fun hHeld=>?_)
   clear hKq Kq
   (try simp only [q1,q2,q3,Act.put,q4,q5,q6])
   refine head_done (by kernel_rfl) ?_
   simp only [List.toList_toArray,List.drop_succ_cons,List.drop_zero]
   go_wp2_with fail
   refine NoPanic.normal ?_
   obtain⟨H,H0,htn,htl,_⟩:=HH.out
   have hb2s:=hb2.size
   have hgtr:gt<wr.heap.size:=hlt
   have nearI:∀ {v:Value} {xs:List Int},OwnF Kd.int 3 w2 wr.drew.heap.size v xs→∀ k',v.ownBlock=some k'→wr.heap.size≤k'∧k'<w2.heap.size:=fun h k' e=>by have:=OwnF.blk h k' e;simpa using this
   have nearP:∀ {v:Value} {xs:List Put},OwnF kPut 127 w2 wr.drew.heap.size v xs→∀ k',v.ownBlock=some k'→wr.heap.size≤k'∧k'<w2.heap.size:=fun h k' e=>by have:=OwnF.blk h k' e;simpa using this
   have apart:∀ k',wr.heap.size≤k'∧k'<w2.heap.size→(Value.slice A5 (ts.length+1) c5).ownBlock≠some k':=fun k' hk' e=>by
    rcases hn4 k' e with e2 | e2
    ·have:=HV.out _ e2;omega
    ·omega
   have keepI:∀ {v:Value} {xs:List Int},OwnF Kd.int 3 w2 wr.drew.heap.size v xs→OwnF Kd.int 3 w4 m.base v xs:=fun h=>(h.keep hk4 (fun k' e e2=>by have:=nearI h k' e;have:=HV.out _ e2;omega)).lower (by simp;omega)
   have keepP:∀ {v:Value} {xs:List Put},OwnF kPut 127 w2 wr.drew.heap.size v xs→OwnF kPut 127 w4 m.base v xs:=fun h=>(h.keep hk4 (fun k' e e2=>by have:=nearP h k' e;have:=HV.out _ e2;omega)).lower (by simp;omega)
   have fr:∀ k',wr.heap.size≤k'∧k'<w2.heap.size→R k'=.no∧wr.heap.size≤k':=fun k' hk'=>⟨(H.fresh hk'.1).1,hk'.1⟩
   have hk4':Keep (fun k'=>(Value.slice (some ⟨gt,0,none⟩) s.tasks.length cap).ownBlock=some k') w2 w4:=hk4
   obtain⟨R',H5⟩:=(H.below hb2).fork (y:=⟨newTask kids[n] k,.slice A1 3 c1,.slice A2 3 c2,.slice A3 0 c3,.slice A4 0 c4⟩) (by rw [htn];exact hk4) ho4 (fun k' e=>by have:=hn4 k' e;rw [htn];exact this) (keepI hN.pr) (keepI hN.po) (keepP hN.pd) (keepP hN.pu)
    (fun k' e=>fr k' (nearI hN.pr k' e)) (fun k' e=>fr k' (nearI hN.po k' e)) (fun k' e=>fr k' (nearP hN.pd k' e)) (fun k' e=>fr k' (nearP hN.pu k' e))
    (fun k' e=>apart k' (nearI hN.pr k' e)) (fun k' e=>apart k' (nearI hN.po k' e)) (fun k' e=>apart k' (nearP hN.pd k' e)) (fun k' e=>apart k' (nearP hN.pu k' e))
    hN.ro hN.rd hN.ru hN.od hN.ou hN.du
   obtain⟨J1,J2⟩:=H0.join H5.mach
   rw [htl] at J1 J2
   have HJ:=Lib.hid (And.intro J1 (hbr.trans J2))
   have HNX:=Lib.hid (forkTo_next s k kids n hlk)
   clear H H0 HH H5 J1 J2 hk4 hk4' ho4 hn4 hN nearI nearP apart keepI keepP fr hHeld v1 v2 v3 k0 g3 hfg
   go_wp2_with fail
   go_roundw
   case rel=>exact⟨n+1,by omega,by go_num,_,by rw [HNX.out];exact HJ.out.1,HJ.out.2⟩
   case measure=>simp [intOf];omega
  ·obtain rfl:n=kids.length:=by omega
   have c4:=hat.c4
   have x1:(k:Int)<((s.tasks.length+kids.length:Nat):Int):=by omega
   have x1':(k:Int)<(s.tasks.length:Int)+kids.length:=by omega
   have x3:(0:Int)≤k:=by omega
   have HE:=Lib.hid (forkTo_all s k kids)
   have HH:=Lib.hid (And.intro H0 (And.intro hx hxt))
   clear H H0 hx hat htn hxt
   go_wp2
   go_end0
   refine⟨rfl,?_⟩
   obtain⟨h1,h2,h3⟩:=HH.out
   have:=h1.int h2 4 (by omega) 1 { x.t with way:=1 } rfl rfl rfl rfl rfl
   rw [h3] at this
   rw [← HE.out]
   exact⟨_,this.mach⟩
end Go.Proofs.YtjacjafmimgfcaaGreat
