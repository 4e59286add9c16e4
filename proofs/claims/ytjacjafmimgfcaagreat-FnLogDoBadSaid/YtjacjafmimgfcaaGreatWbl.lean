/- The program's look at a system: who goes on; the act that is next.; The program's look at a system: who was begun for whose sake; what must be held. -/
import Derived.Test.YtjacjafmimgfcaaGreatWaj
import Derived.Test.YtjacjafmimgfcaaGreatWas
import Derived.Test.YtjacjafmimgfcaaGreatWau
set_option maxHeartbeats 2000000
set_option maxRecDepth 100000
set_option linter.unusedVariables false
set_option linter.unusedSimpArgs false
namespace Go.Proofs.YtjacjafmimgfcaaGreat
open Go.RowKit
theorem live_calls (t:Task)(R O D U:Option Addr)(cr co cd cu:Nat)(w:World) :
  Calls Tryz.prog 125 #[.agg #[.int .i64 t.body,.int .i64 t.pc,.int .i64 t.up,.slice R t.regs.length cr,.int .i64 t.way,.int .i64 t.stage,.int .i64 t.pos,.int .i64 t.since,.slice O t.old.length co,.slice D t.reads.length cd,.slice U t.puts.length cu,.int .i64 t.whn,.int .i64 t.frm]] w fun e w'=>e=.returned (.bool (isLive t))∧Below w.heap.size w w':=by
 have hb:=fun o=>alB w o
 by_cases f0:t.way=0
 ·have g0:(t.way == 0)=true:=by simp [f0]
  have HL:Hid (isLive t=true):=Lib.hid (by rw [isLive_or,g0];rfl)
  clear f0
  go_enter Tryz.func125,Tryz.ntmps125
  go_wp2
  go_ret
  exact⟨ret_bool HL.out.symm,hb _⟩
 ·have g0:(t.way == 0)=false:=by simp [f0]
  have HL:Hid (isLive t=(t.way == 1)):=Lib.hid (by rw [isLive_or,g0];rfl)
  clear f0
  go_enter Tryz.func125,Tryz.ntmps125
  go_wp2
  go_ret
  exact⟨ret_bool HL.out.symm,hb _⟩
def actGot (p:Prog) (t:Task):Act:=if p.there t then p.act t else noAct
theorem actAt_calls (p:Prog)(t:Task)(P Q R O D U:Option Addr)(cp cq cr co cd cu:Nat)(w:World)(S:Nat→Prop)(hQ:Row (Kd.slice kAct) w S Q p.bodies)(hbody:0≤t.body∧t.body<p.bodies.length)(hpc:0≤t.pc∧t.pc≤(p.acts t.body).length) :
  Calls Tryz.prog 124 #[.agg #[.slice P p.cells.length cp,.slice Q p.bodies.length cq],.agg #[.int .i64 t.body,.int .i64 t.pc,.int .i64 t.up,.slice R t.regs.length cr,.int .i64 t.way,.int .i64 t.stage,.int .i64 t.pos,.int .i64 t.since,.slice O t.old.length co,.slice D t.reads.length cd,.slice U t.puts.length cu,.int .i64 t.whn,.int .i64 t.frm]] w fun e w'=>(∃ G K cg ck,e=.returned (.tuple #[.agg #[.int .i64 (actGot p t).kind,.slice G (actGot p t).deeds.length cg,.slice K (actGot p t).kids.length ck,.int .i64 (actGot p t).reg],.bool (p.there t)])∧Row kDeed w' S G (actGot p t).deeds∧Row Kd.int w' S K (actGot p t).kids)∧Below w.heap.size w w':=by
 have hmq:=hQ.1
 obtain⟨b,hbn⟩:∃ b:Nat,t.body=(b:Int):=⟨t.body.toNat,by omega⟩
 obtain⟨c,hcn⟩:∃ c:Nat,t.pc=(c:Int):=⟨t.pc.toNat,by omega⟩
 have hbl:b<p.bodies.length:=by omega
 have hacts:p.acts t.body=p.bodies[b]:=by unfold Prog.acts;rw [hbn,Int.toNat_natCast];exact getD_at _ _ _ hbl
 have hcl:c≤p.bodies[b].length:=by rw [hacts] at hpc;omega
 obtain⟨ae,E,ce,rfl,hle,hce,hcel,hE⟩:=at_slice hQ hbl
 have e0:=fun o1 o2 o3=>((alB3 w o1 o2 o3).cell (p:=ae.add b) (by rw [block_add];exact hle)).trans hce
 have hme:=hE.1
 have hb:=fun o1 o2 o3=>alB3 w o1 o2 o3
 have y1:(b:Int)<p.bodies.length:=by omega
 have y3:(0:Int)≤b:=by omega
 have z3:(0:Int)≤c:=by omega
 have hth:p.there t=decide (c<p.bodies[b].length):=by unfold Prog.there;rw [hacts,hcn];simp
 have hact:∀ h:c<p.bodies[b].length,p.act t=p.bodies[b][c]:=fun h=>by unfold Prog.act;rw [hacts,hcn,Int.toNat_natCast];exact getD_at _ _ _ h
 have hgot:actGot p t=if h:c<p.bodies[b].length then p.bodies[b][c] else noAct:=by
  unfold actGot
  by_cases h:c<p.bodies[b].length
  ·rw [if_pos (by rw [hth];simp [h]),dif_pos h];exact hact h
  ·rw [if_neg (by rw [hth];simp [h]),dif_neg h]
 rw [hbn,hcn]
 by_cases hc:c<p.bodies[b].length
 ·obtain⟨af,G,cg,K,ck,rfl,hlf,m0,m1,m2,m3,hcg,hck,hG,hK,hi1,hi2⟩:=at_act hE hc
  have hlf2:(af.add (c*4)).block<w.heap.size:=by rw [block_add];exact hlf
  have a0:=fun o1 o2 o3=>((alB3 w o1 o2 o3).cell (p:=af.add (c*4)) hlf2).trans m0
  have a1:=fun o1 o2 o3=>((alB3 w o1 o2 o3).cell (p:=⟨(af.add (c*4)).block,(af.add (c*4)).off+1,none⟩) hlf2).trans m1
  have a2:=fun o1 o2 o3=>((alB3 w o1 o2 o3).cell (p:=⟨(af.add (c*4)).block,(af.add (c*4)).off+2,none⟩) hlf2).trans m2
  have a3:=fun o1 o2 o3=>((alB3 w o1 o2 o3).cell (p:=⟨(af.add (c*4)).block,(af.add (c*4)).off+3,none⟩) hlf2).trans m3
  have hT:p.there t=true:=by rw [hth];simp [hc]
  have hA:actGot p t=p.bodies[b][c]:=by rw [hgot,dif_pos hc]
  have hne:((c:Int) == (p.bodies[b].length:Int))=false:=by simp;omega
  have z1:(c:Int)<(p.bodies[b].length:Int):=by omega
  rw [hT,hA]
  have HG:=Lib.hid (And.intro hG hK)
  clear hT hA hth hact hbn hcn hacts hce hpc hbody m0 m1 m2 m3 hcl hG hK hgot
  go_enter Tryz.func124,Tryz.ntmps124
  go_wp2
  exact bodyPost_ret (v:=.tuple #[.agg #[.int .i64 p.bodies[b][c].kind,.slice G p.bodies[b][c].deeds.length cg,.slice K p.bodies[b][c].kids.length ck,.int .i64 p.bodies[b][c].reg],.bool true]) (by simp [results,Tryz.results124,go_sem]) rfl ⟨⟨G,K,cg,ck,rfl,HG.out.1.belowAll (hb _ _ _),HG.out.2.belowAll (hb _ _ _)⟩,hb _ _ _⟩
 ·have hT:p.there t=false:=by rw [hth];simp [hc]
  have hA:actGot p t=noAct:=by rw [hgot,dif_neg hc]
  have hne:((c:Int) == (p.bodies[b].length:Int))=true:=by simp;omega
  rw [hT,hA]
  clear hT hA hth hact hbn hcn hacts hce hpc hbody hcl hgot
  go_enter Tryz.func124,Tryz.ntmps124
  go_wp2
  exact bodyPost_ret (v:=.tuple #[.agg #[.int .i64 0,.slice none 0 0,.slice none 0 0,.int .i64 0],.bool false]) (by simp [results,Tryz.results124,go_sem]) rfl ⟨⟨none,none,0,0,rfl,Row.nil _ _ _ _,Row.nil _ _ _ _⟩,hb _ _ _⟩
theorem upOkI_calls (s:Sys)(i:Nat)(A B C:Option Addr)(ca cb cc:Nat)(w:World)(S:Nat→Prop)(hT:Row kTask w S B s.tasks)(hi:i<s.tasks.length) :
  Calls Tryz.prog 85 #[.agg #[.slice A s.cells.length ca,.slice B s.tasks.length cb,.int .i64 s.clock,.slice C s.log.length cc],.int .i64 (i:Nat)] w fun e w'=>e=.returned (.bool (upOk s i))∧Below w.heap.size w w':=by
 have hb:=fun o o'=>alB2 w o o'
 have hm:=hT.1
 obtain⟨ad,R,O,D,U,cr,co,cd,cu,rfl,hl,hrows,hat⟩:=at_task hT hi
 have hl2:(ad.add (i*13)).block<w.heap.size:=by rw [block_add];exact hl
 have q:=fun o=>hat.below (alB w o) hl2
 have k0:=fun o=>(q o).c0;have k1:=fun o=>(q o).c1;have k2:=fun o=>(q o).c2;have k3:=fun o=>(q o).c3;have k4:=fun o=>(q o).c4;have k5:=fun o=>(q o).c5;have k6:=fun o=>(q o).c6;have k7:=fun o=>(q o).c7;have k8:=fun o=>(q o).c8;have k9:=fun o=>(q o).c9;have k10:=fun o=>(q o).c10;have k11:=fun o=>(q o).c11;have k12:=fun o=>(q o).c12
 have x1:(i:Int)<s.tasks.length:=by omega
 have x3:(0:Int)≤i:=by omega
 have ht:s.t i=s.tasks[i]:=sys_t hi
 have hup:upOk s i=if i=0 then decide (s.tasks[i].up=-1) else (inR s.tasks[i].up 0 ((i:Int)-1) && (!isLive s.tasks[i] || decide ((s.t s.tasks[i].up.toNat).way=1))):=by unfold upOk;rw [ht]
 have HUP:=Lib.hid hup
 clear hup ht
 rcases Nat.eq_zero_or_pos i with h0 | h0
 ·have b0:((i:Int) == 0)=true:=by simp [h0]
  have HH:=Lib.hid h0
  clear h0
  go_enter Tryz.func85,Tryz.ntmps85
  go_wp2
  go_ret
  exact⟨ret_bool (by rw [HUP.out,if_pos HH.out];rfl),hb _ _⟩
 ·have b0:((i:Int) == 0)=false:=by simp;omega
  cases e1:inR s.tasks[i].up 0 ((i:Int)-1) with
  | false =>
   have E1:=Lib.hid e1
   clear e1
   go_enter Tryz.func85,Tryz.ntmps85
   go_wp2_with (go_at_call 89;refine(isPlace_calls _ _ _ (by omega)).mono ?_;rintro e w' ⟨rfl,rfl⟩;rw [E1.out])
   go_ret
   exact⟨ret_bool (by rw [HUP.out,if_neg (by omega),E1.out];rfl),hb _ _⟩
  | true =>
   have hr:0≤s.tasks[i].up∧s.tasks[i].up≤(i:Int)-1:=by simpa [inR] using e1
   have E1:=Lib.hid e1
   clear e1
   obtain⟨u,hu⟩:∃ u:Nat,s.tasks[i].up=(u:Int):=⟨s.tasks[i].up.toNat,by omega⟩
   have hul:u<s.tasks.length:=by omega
   obtain⟨ad',R',O',D',U',cr',co',cd',cu',he,hl',hrows',hat'⟩:=at_task hT hul
   injection he with he
   subst he
   have hl3:(ad.add (u*13)).block<w.heap.size:=by rw [block_add];exact hl
   have j4:=fun w' (h:Below w.heap.size w w')=>(hat'.below h hl3).c4
   simp only [hu] at k2
   have HUP2:Hid (upOk s i=(!isLive s.tasks[i] || decide (s.tasks[u].way=1))):=Lib.hid (by rw [HUP.out,if_neg (by omega),E1.out,hu,Int.toNat_natCast,sys_t hul];rfl)
   have E1':Hid (inR (u:Int) 0 ((i:Int)-1)=true):=Lib.hid (by rw [← hu];exact E1.out)
   have y1:(u:Int)<s.tasks.length:=by omega
   have y3:(0:Int)≤u:=by omega
   have hlv:=fun w'=>live_calls s.tasks[i] R O D U cr co cd cu w'
   simp only [hu] at hlv
   have HLV:=Lib.hid hlv
   have J4:=Lib.hid j4
   have hz2:∀ o o',w.heap.size+1<((w.alloc o).alloc o').heap.size:=fun o o'=>by simp
   clear hu hr hat' HUP E1 hlv j4
   cases e2:isLive s.tasks[i] with
   | false =>
    have E2:=Lib.hid e2
    clear e2
    go_enter Tryz.func85,Tryz.ntmps85
    go_wp2_with (first | (go_at_call 89;refine(isPlace_calls _ _ _ (by omega)).mono ?_;rintro e w' ⟨rfl,rfl⟩;rw [E1'.out]) | (go_at_call 125;refine(HLV.out _).mono ?_;rintro e w2 ⟨rfl,hb2⟩;rw [E2.out]))
    go_ret
    exact⟨ret_bool (by rw [HUP2.out,E2.out];rfl),below_then (hb _ _) (by simp;omega) hb2⟩
   | true =>
    have E2:=Lib.hid e2
    clear e2
    go_enter Tryz.func85,Tryz.ntmps85
    go_wp2_with (first | (go_at_call 89;refine(isPlace_calls _ _ _ (by omega)).mono ?_;rintro e w' ⟨rfl,rfl⟩;rw [E1'.out]) | (go_at_call 125;refine(HLV.out _).mono ?_;rintro e w2 ⟨rfl,hb2⟩;rw [E2.out];have hbw2:=below_then (hb _ _) (by simp;omega) hb2;have z0:=(hb2.cell (p:=⟨w.heap.size,1,none⟩) (by simp;omega)).trans (show _=some (.slice (some ad) s.tasks.length cb) by simp [go_sem]);have z1:=(hb2.cell (p:=⟨w.heap.size+1,2,none⟩) (by simp)).trans (show _=some (.int .i64 (u:Nat)) by simp [go_sem]);have z2:=J4.out _ hbw2))
    go_ret
    exact⟨ret_bool (by rw [HUP2.out,E2.out];rfl),hbw2⟩
end Go.Proofs.YtjacjafmimgfcaaGreat
namespace Go.Proofs.YtjacjafmimgfcaaGreat
open Go.RowKit
def ints (l:List Nat):List Int:=l.map fun i:Nat=>(i:Int)
def kidsTo (s:Sys) (k j:Nat):List Nat:=(List.range j).filter fun i=>decide (k<i) && decide ((s.t i).up=k)
theorem kidsTo_start (s:Sys)(k:Nat):kidsTo s k (k+1)=[]:=by
 unfold kidsTo
 rw [List.filter_eq_nil_iff]
 intro i hi
 have:=List.mem_range.1 hi
 simp;omega
theorem kidsTo_next (s:Sys)(k j:Nat)(hj:k<j):kidsTo s k (j+1)=kidsTo s k j ++ if (s.t j).up=k then [j] else []:=by
 unfold kidsTo
 rw [List.range_succ,List.filter_append]
 congr 1
 by_cases h:(s.t j).up=k
 ·rw [if_pos h];simp [hj,h]
 ·rw [if_neg h];simp [h]
theorem kidsTo_len (s:Sys)(k j:Nat):(kidsTo s k j).length≤j:=by
 unfold kidsTo
 have:=List.length_filter_le (fun i=>decide (k<i) && decide ((s.t i).up=k)) (List.range j)
 simpa using this
theorem treeKids_calls (s:Sys)(k:Nat)(A B C:Option Addr)(ca cb cc:Nat)(w:World)(S:Nat→Prop)(hT:Row kTask w S B s.tasks)(hk:k<s.tasks.length)(hn:s.tasks.length≤1000000) :
  Calls Tryz.prog 126 #[.agg #[.slice A s.cells.length ca,.slice B s.tasks.length cb,.int .i64 s.clock,.slice C s.log.length cc],.int .i64 (k:Nat)] w fun e w'=>∃ v,e=.returned v∧OwnI 3 w' w.heap.size v (ints (kidsI s k))∧Below w.heap.size w w':=by
 have hm:=hT.1
 obtain⟨W,HW⟩:∃ W,W=w.alloc (Obj.cells #[.slice A s.cells.length ca,.slice B s.tasks.length cb,.int .i64 s.clock,.slice C s.log.length cc] 45):=⟨_,rfl⟩
 have hbW:Below w.heap.size w W:=by rw [HW];exact alB w _
 have hzW:W.heap.size=w.heap.size+1:=by rw [HW];simp
 have bs1:W.cell? ⟨w.heap.size,1,none⟩=some (.slice B s.tasks.length cb):=by rw [HW];simp [go_sem]
 have hs:w.heap.size<W.heap.size:=by omega
 have hT2:=hT.belowAll hbW
 have hwr:IntKind.i64.wrap ((k:Int)+1)=(k:Int)+1:=IntWalk.i64_in _ (by omega)
 have e1:inR (k:Int) 0 ((s.tasks.length:Int)-1)=true:=by simp [inR];omega
 have E1:=Lib.hid e1
 have HWW:=Lib.hid HW
 have HZ:=Lib.hid hzW
 clear HW hzW e1
 go_enter Tryz.func126,Tryz.ntmps126
 go_wp2_with (go_at_call 89;refine(isPlace_calls _ _ _ (by omega)).mono ?_;rintro e w' ⟨rfl,rfl⟩;rw [E1.out])
 rw [← HWW.out]
 go_loopw [5,6] (fun v i wr=>∃ j:Nat,k<j∧j≤s.tasks.length∧i=.int .i64 j∧OwnI 3 wr W.heap.size v (ints (kidsTo s k j))∧Below W.heap.size W wr) (fun _ i _=>s.tasks.length-(intOf i).toNat)
 case atStart=>exact⟨k+1,by omega,by omega,by go_num,by rw [kidsTo_start];exact OwnI.nil _ _ _,Below.refl _ _⟩
 case round =>
  obtain⟨j,hkj,hj,rfl,ho,hbr⟩:=hrel
  have z1:=(hbr.cell (p:=⟨w.heap.size,1,none⟩) hs).trans bs1
  by_cases hlt:j<s.tasks.length
  ·obtain⟨ad,R,O,D,U,cr,co,cd,cu,rfl,hl,hrows,hat⟩:=at_task (hT2.belowAll hbr) hlt
   have c2:=hat.c2
   have x1:(j:Int)<s.tasks.length:=by omega
   have x3:(0:Int)≤j:=by omega
   have hnx:=kidsTo_next s k j hkj
   have hkl:=kidsTo_len s k j
   rw [sys_t hlt] at hnx
   by_cases hu:s.tasks[j].up=(k:Int)
   ·have b1:(s.tasks[j].up == (k:Int))=true:=by simp [hu]
    rw [if_pos hu] at hnx
    have HN:=Lib.hid (And.intro hnx hkl)
    clear hu hnx hkl hat hrows
    go_wp2_with (at_builtin;refine wpList_append_kd (d:=Kd.int) rfl (.tmp 30) (.tmp 32) _ rfl Tryz.underlying22 _ 8 infoInt rfl (by decide) (by decide) rfl (OwnI.belowAll ho (alB _ _)) _ _ rfl (Row.one_ (d:=Kd.int) (e:=3) (w:=wr) (S:=fun _=>False) (x:=(j:Int)) ⟨rfl,by omega,by omega⟩) (fun q hq e=>by have:=ho.blk q e.symm;rcases hq with hq | hq;exact hq;omega) (by have:=HN.out.2;simp [ints];omega) (by have:=hbr.size;simp;omega) ?_;intro v2 w2 ho2 hg2 hv2;have ho3:=OwnI.of ho2;have hbr2:=Below.grown (hbr.alloc hbr.size _) hg2 (by have:=hbr.size;simp;omega) (fun q hq=>(ho.blk q hq).1))
    exact⟨⟨j+1,by omega,by omega,by go_num,by rw [HN.out.1];simpa [ints] using ho3,hbr2⟩,by simp [intOf];omega⟩
   ·have b1:(s.tasks[j].up == (k:Int))=false:=by simp [hu]
    rw [if_neg hu,List.append_nil] at hnx
    have HN:=Lib.hid hnx
    clear hu hnx hkl hat hrows
    go_wp2
    go_roundw
    case rel=>exact⟨j+1,by omega,by omega,by go_num,by rw [HN.out];exact ho,hbr⟩
    case measure=>simp [intOf];omega
  ·have e:kidsTo s k j=kidsI s k:=by unfold kidsTo kidsI;rw [show j=s.tasks.length by omega]
   rw [e] at ho
   have hol:OwnI 3 wr w.heap.size _ _:=ho.lower hbW.size
   go_wp2
   go_ret
   exact⟨_,rfl,hol,below_then hbW hbW.size hbr⟩
theorem Row.drop {α:Type}{d:Kd α}{w:World}{S:Nat→Prop}{ad:Addr}{xs:List α}(h:Row d w S (some ad) xs)(n:Nat):Row d w S (some (ad.add (n*d.sz))) (xs.drop n):=by
 refine⟨by have:=h.1;rw [List.length_drop];omega,fun hn=>?_⟩
 obtain⟨ad',e,hb,hl,hc⟩:=h.2 (fun e=>hn (by rw [e];simp))
 injection e with e
 subst e
 refine⟨_,rfl,by rw [block_add];exact hb,by rw [block_add];exact hl,fun j x hj=>?_⟩
 rw [List.getElem?_drop] at hj
 obtain⟨c,hk,hcell⟩:=hc (n+j) x hj
 refine⟨c,hk,fun i u hu=>?_⟩
 rw [add_add',show n*d.sz+(j*d.sz+i)=(n+j)*d.sz+i by rw [Nat.add_mul];omega]
 exact hcell i u hu
theorem mustHold_calls (t:Task)(R O D U:Option Addr)(cr co cd cu:Nat)(w:World)(S:Nat→Prop)(hU:Row kPut w S U t.puts)(hu:t.puts.length≤cu)(hp:t.stage=2∨t.stage=5→0≤t.pos∧t.pos<t.puts.length) :
  Calls Tryz.prog 127 #[.agg #[.int .i64 t.body,.int .i64 t.pc,.int .i64 t.up,.slice R t.regs.length cr,.int .i64 t.way,.int .i64 t.stage,.int .i64 t.pos,.int .i64 t.since,.slice O t.old.length co,.slice D t.reads.length cd,.slice U t.puts.length cu,.int .i64 t.whn,.int .i64 t.frm]] w fun e w'=>(∃ A c,e=.returned (.slice A (mustHold t).length c)∧(mustHold t).length≤c∧Row kPut w' S A (mustHold t))∧Below w.heap.size w w':=by
 have hb:=fun o=>alB w o
 have hm:=hU.1
 by_cases e2:t.stage=2
 ·have b2:(t.stage == 2)=true:=by simp [e2]
  have hq:=hp (.inl e2)
  obtain⟨q,hqq⟩:∃ q:Nat,t.pos=(q:Int):=⟨t.pos.toNat,by omega⟩
  have hM:mustHold t=t.puts.take q:=by unfold mustHold;rw [if_pos e2,hqq,Int.toNat_natCast]
  have hl:(t.puts.take q).length=q:=by rw [List.length_take];omega
  have hrow:=fun o=>(hU.belowAll (alB w o)).take q
  rw [hM,hl]
  have x1:(q:Int)≤t.puts.length:=by omega
  have x2:(q:Int)≤cu:=by omega
  have x3:(0:Int)≤q:=by omega
  rw [hqq]
  have HR:=Lib.hid hrow
  have HQ:=Lib.hid (show q≤cu by omega)
  clear e2 hq hqq hM hl hrow hp
  go_enter Tryz.func127,Tryz.ntmps127
  go_wp2
  go_ret
  exact⟨⟨U,cu,rfl,HQ.out,HR.out _⟩,hb _⟩
 ·have b2:(t.stage == 2)=false:=by simp [e2]
  by_cases e3:t.stage=3
  ·have b3:(t.stage == 3)=true:=by simp [e3]
   have hM:mustHold t=t.puts:=by unfold mustHold;rw [if_neg e2,if_pos (.inl e3)]
   rw [hM]
   have hrow:=fun o=>hU.belowAll (alB w o)
   have HR:=Lib.hid hrow
   clear e2 e3 hM hp hrow
   go_enter Tryz.func127,Tryz.ntmps127
   go_wp2
   go_ret
   exact⟨⟨U,cu,rfl,hu,HR.out _⟩,hb _⟩
  ·have b3:(t.stage == 3)=false:=by simp [e3]
   by_cases e4:t.stage=4
   ·have b4:(t.stage == 4)=true:=by simp [e4]
    have hM:mustHold t=t.puts:=by unfold mustHold;rw [if_neg e2,if_pos (.inr e4)]
    rw [hM]
    have hrow:=fun o=>hU.belowAll (alB w o)
    have HR:=Lib.hid hrow
    clear e2 e3 e4 hM hp hrow
    go_enter Tryz.func127,Tryz.ntmps127
    go_wp2
    go_ret
    exact⟨⟨U,cu,rfl,hu,HR.out _⟩,hb _⟩
   ·have b4:(t.stage == 4)=false:=by simp [e4]
    by_cases e5:t.stage=5
    ·have b5:(t.stage == 5)=true:=by simp [e5]
     have hq:=hp (.inr e5)
     obtain⟨q,hqq⟩:∃ q:Nat,t.pos=(q:Int):=⟨t.pos.toNat,by omega⟩
     have hM:mustHold t=t.puts.drop q:=by unfold mustHold;rw [if_neg e2,if_neg (by omega),if_pos e5,hqq,Int.toNat_natCast]
     obtain⟨ad,rfl,_⟩:=hU.2 (fun h=>by rw [h] at hq;simp at hq;omega)
     have hrow:=fun o=>(hU.belowAll (alB w o)).drop q
     have hl:(t.puts.drop q).length=t.puts.length-q:=List.length_drop
     rw [hM,hl]
     have x1:(q:Int)≤t.puts.length:=by omega
     have x2:(q:Int)≤cu:=by omega
     have x3:(0:Int)≤q:=by omega
     have x4:q≤t.puts.length:=by omega
     have x5:q≤cu:=by omega
     have x6:¬ cu≤q:=by omega
     have x7:q<cu:=by omega
     have x8:cu-q≠0:=by omega
     rw [hqq]
     have HR:=Lib.hid hrow
     have HQ:=Lib.hid (show t.puts.length-q≤cu-q by omega)
     clear e2 e3 e4 e5 hq hqq hM hl hrow hp
     go_enter Tryz.func127,Tryz.ntmps127
     go_wp2
     go_ret
     exact⟨⟨some (ad.add (q*2)),cu-q,rfl,by omega,HR.out _⟩,hb _⟩
    ·have b5:(t.stage == 5)=false:=by simp [e5]
     have hM:mustHold t=[]:=by unfold mustHold;rw [if_neg e2,if_neg (by omega),if_neg e5]
     rw [hM]
     clear e2 e3 e4 e5 hM hp
     go_enter Tryz.func127,Tryz.ntmps127
     go_wp2
     go_ret
     exact⟨⟨none,0,rfl,Nat.le_refl _,Row.nil _ _ _ _⟩,hb _⟩
def stand (s:Sys) (l:List Nat):List Nat:=l.filter fun k=>decide ((s.t k).way≠4)
theorem stand_next (s:Sys)(l:List Nat)(j:Nat)(h:j<l.length):(stand s (l.take (j+1))).length=(stand s (l.take j)).length+if (s.t l[j]).way≠4 then 1 else 0:=by
 unfold stand
 rw [List.take_succ_eq_append_getElem h,List.filter_append,List.length_append]
 congr 1
 by_cases g:(s.t l[j]).way≠4
 ·rw [if_pos g];simp [g]
 ·rw [if_neg g];simp at g;simp [g]
end Go.Proofs.YtjacjafmimgfcaaGreat
