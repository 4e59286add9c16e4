/- The program's look at a system: who holds what.; The program's look at a system: changes that were ended. -/
import Derived.Test.YtjacjafmimgfcaaGreatWat
import Derived.Test.YtjacjafmimgfcaaGreatWau
import Derived.Test.YtjacjafmimgfcaaGreatWbn
set_option maxHeartbeats 4000000
set_option maxRecDepth 100000
set_option linter.unusedVariables false
set_option linter.unusedSimpArgs false
namespace Go.Proofs.YtjacjafmimgfcaaGreat
open Go.RowKit
theorem fill_next (k n:Nat)(h:k<n):(List.replicate k (-1:Int) ++ List.replicate (n-k) 0).set k (-1)=List.replicate (k+1) (-1) ++ List.replicate (n-(k+1)) 0:=by
 apply List.ext_getElem?
 intro i
 rw [List.getElem?_set]
 by_cases e:k=i
 ·subst e
  rw [if_pos rfl,if_pos (by simp;omega),List.getElem?_append_left (by simp)]
  simp
 ·rw [if_neg e]
  rcases Nat.lt_or_ge i k with h1 | h1
  ·rw [List.getElem?_append_left (by simpa using h1),List.getElem?_append_left (by simp;omega)]
   rw [List.getElem?_replicate,List.getElem?_replicate,if_pos h1,if_pos (by omega)]
  ·rw [List.getElem?_append_right (by simpa using h1),List.getElem?_append_right (by simp;omega)]
   simp only [List.getElem?_replicate,List.length_replicate]
   by_cases h2:i<n
   ·rw [if_pos (by omega),if_pos (by omega)]
   ·rw [if_neg (by omega),if_neg (by omega)]
theorem holdAll_step (h:List Int)(i:Int)(l:List Put)(j:Nat)(hj:j<l.length):holdAll h i (l.drop j)=if h.getD l[j].cell.toNat 0≠-1 then none else holdAll (h.set l[j].cell.toNat i) i (l.drop (j+1)):=by
 rw [List.drop_eq_getElem_cons hj,holdAll]
theorem holdTasks_step (s:Sys)(h:List Int)(i:Nat)(hi:i<s.tasks.length):holdTasks h i (s.tasks.drop i)=match holdAll h i (mustHold s.tasks[i]) with | none=>none | some h'=>holdTasks h' (i+1) (s.tasks.drop (i+1)):=by
 rw [List.drop_eq_getElem_cons hi,holdTasks]
 rfl
def locksVal (s:Sys) (r:Option (List Int)):Bool:=match r with | none=>false | some h=>(List.range s.cells.length).all fun i=>decide ((s.c i).lock=h.getD i 0)
theorem locksOkI_val (s:Sys):locksOkI s=locksVal s (holdTasks (List.replicate s.cells.length (-1)) 0 s.tasks):=rfl
theorem keepg_below {w V wr:World}{g:Nat}(hb:Below w.heap.size w V)(hk:Keep (fun b=>b=g) V wr)(hg:w.heap.size≤g):Below w.heap.size w wr :=
 hb.trans (hk.below (fun k hk e=>by omega) hb.size)
theorem locksOk_calls (s:Sys)(A B C:Option Addr)(ca cb cc:Nat)(w:World)(S:Nat→Prop)(hC:Row kCell w S A s.cells)(hT:Row kTask w S B s.tasks)(hP:Placed s)(hnc:s.cells.length≤1000)(hnt:s.tasks.length≤1000) :
  Calls Tryz.prog 87 #[.agg #[.slice A s.cells.length ca,.slice B s.tasks.length cb,.int .i64 s.clock,.slice C s.log.length cc]] w fun e w'=>e=.returned (.bool (locksOkI s))∧Below w.heap.size w w':=by
 obtain⟨nc,hncn⟩:∃ nc,nc=s.cells.length:=⟨_,rfl⟩
 obtain⟨W,HW⟩:∃ W,W=w.alloc (Obj.cells #[.slice A s.cells.length ca,.slice B s.tasks.length cb,.int .i64 s.clock,.slice C s.log.length cc] 45):=⟨_,rfl⟩
 have hbW:Below w.heap.size w W:=by rw [HW];exact alB w _
 have hzW:W.heap.size=w.heap.size+1:=by rw [HW];simp
 obtain⟨V,HV⟩:∃ V,V=W.alloc (Obj.cells (madeCells [.int .i64 0].toArray (s.cells.length*1)) 3):=⟨_,rfl⟩
 have hbV:Below w.heap.size w V:=by rw [HV];exact below_then hbW hbW.size (alB W _)
 have hzV:V.heap.size=w.heap.size+2:=by rw [HV];simp;omega
 have hmk:=make_row Tryz.underlying22 infoInt [.int .i64 0] rfl s.cells.length (by omega) (by omega) W
 have h00:OwnI 3 V W.heap.size (.slice (some ⟨W.heap.size,0,none⟩) s.cells.length s.cells.length) (List.replicate s.cells.length 0):=by rw [HV];exact OwnI.of (Own.zeros (d:=Kd.int) (base:=W.heap.size) (S:=fun _=>True) s.cells.length [.int .i64 0] 0 rfl (by decide) (fun _ _=>⟨rfl,by omega,by omega⟩) (Nat.le_refl _) trivial (by omega))
 rw [← HV] at hmk
 have bs0:V.cell? ⟨w.heap.size,0,none⟩=some (.slice A s.cells.length ca):=by rw [HV,HW];simp [go_sem]
 have bs1:V.cell? ⟨w.heap.size,1,none⟩=some (.slice B s.tasks.length cb):=by rw [HV,HW];simp [go_sem]
 have hsV:w.heap.size<V.heap.size:=by omega
 have hgW:W.heap.size=w.heap.size+1:=hzW
 have hCV:Row kCell V (fun k=>S k∧k<w.heap.size) A s.cells:=hC.bound.belowAll hbV
 have hTV:Row kTask V (fun k=>S k∧k<w.heap.size) B s.tasks:=hT.bound.belowAll hbV
 have hmk2:=hmk
 rw [hgW] at h00 hmk2
 rw [HW] at hmk2
 have HWW:=Lib.hid HW
 have HZ:=Lib.hid (And.intro hzW hzV)
 have hmc:=hC.1
 have hmt:=hT.1
 clear HW HV hzW hzV hncn hmk
 go_enter Tryz.func87,Tryz.ntmps87
 go_wp2
 go_loopw [4,17] (fun _ c wr=>∃ k:Nat,k≤s.cells.length∧c=.int .i64 k∧OwnI 3 wr (w.heap.size+1) (.slice (some ⟨w.heap.size+1,0,none⟩) s.cells.length s.cells.length) (List.replicate k (-1) ++ List.replicate (s.cells.length-k) 0)∧Keep (fun b=>b=w.heap.size+1) V wr) (fun _ c _=>s.cells.length-(intOf c).toNat)
 case atStart=>exact⟨0,Nat.zero_le _,rfl,by simpa using h00,Keep.refl _ _⟩
 case round =>
  obtain⟨k,hk,rfl,ho,hkp⟩:=hrel
  clear h00 hmk2
  have hlen:(List.replicate k (-1:Int) ++ List.replicate (s.cells.length-k) 0).length=s.cells.length:=by simp;omega
  by_cases hlt:k<s.cells.length
  ·have hnx:=fill_next k s.cells.length hlt
   have ho':OwnI 3 wr (w.heap.size+1) (.slice (some ⟨w.heap.size+1,0,none⟩) (List.replicate k (-1:Int) ++ List.replicate (s.cells.length-k) 0).length s.cells.length) (List.replicate k (-1) ++ List.replicate (s.cells.length-k) 0):=by rw [hlen];exact ho
   obtain⟨c0,c1⟩:=ho'.cell (j:=k) (by omega)
   have hst:=ho'.set_ (j:=k) (by omega) (-1) (by unfold isI;omega)
   rw [hlen,hnx] at hst
   have x1:(k:Int)<s.cells.length:=by omega
   have x3:(0:Int)≤k:=by omega
   have hkp2:=hkp.setCell (p:=⟨w.heap.size+1,k,none⟩) (fun _=>rfl) (.int .i64 (-1))
   have HO:=Lib.hid (And.intro hst hkp2)
   obtain⟨v0,hv0⟩:∃ v0,wr.cell? ⟨w.heap.size+1,k,none⟩=some v0:=⟨_,c0⟩
   clear ho ho' hst hkp2 hnx hlen c0
   go_wp2
   go_roundw
   case rel=>exact⟨k+1,by omega,by go_num,HO.out.1,HO.out.2⟩
   case measure=>simp [intOf];omega
  ·have hk2:k=s.cells.length:=by omega
   have e0:List.replicate k (-1:Int) ++ List.replicate (s.cells.length-k) 0=List.replicate s.cells.length (-1):=by rw [hk2];simp
   rw [e0] at ho
   have z1:=(hkp.cell (p:=⟨w.heap.size,1,none⟩) hsV (by simp)).trans bs1
   obtain⟨H0,hH0⟩:∃ H0,H0=List.replicate s.cells.length (-1:Int):=⟨_,rfl⟩
   have hl0:H0.length=s.cells.length:=by rw [hH0];simp
   have hval:locksOkI s=locksVal s (holdTasks H0 0 s.tasks):=by rw [hH0];exact locksOkI_val s
   rw [← hH0] at ho
   have HVAL:=Lib.hid hval
   clear hk2 e0 hval hH0 hlen
   go_wp2
   go_loopw [5,6,8,27] (fun _ _ _ c wr=>∃ (i:Nat) (h:List Int),i≤s.tasks.length∧c=.int .i64 i∧Hid (holdTasks H0 0 s.tasks=holdTasks h i (s.tasks.drop i))∧h.length=s.cells.length∧OwnI 3 wr (w.heap.size+1) (.slice (some ⟨w.heap.size+1,0,none⟩) s.cells.length s.cells.length) h∧Keep (fun b=>b=w.heap.size+1) V wr) (fun _ _ _ c _=>s.tasks.length-(intOf c).toNat)
   case atStart=>exact⟨0,H0,Nat.zero_le _,rfl,Lib.hid rfl,hl0,ho,hkp⟩
   case round =>
    obtain⟨i,h,hi,rfl,HA,hhl,hoh,hkr⟩:=hrel
    clear ho hkp z1 hl0
    by_cases hlt:i<s.tasks.length
    ·obtain⟨wo,rfl⟩:∃ wo:World,wo=wr:=⟨_,rfl⟩
     obtain⟨ad,R,O,D,U,cr,co,cd,cu,rfl,hl,hrows,hat⟩:=at_task (hTV.keep hkr (fun q hq _ e=>by omega)) hlt
     obtain⟨k0,k1,k2,k3,k4,k5,k6,k7,k8,k9,k10,k11,k12⟩:=hat
     have hpl:=hP i hlt
     rw [sys_t hlt] at hpl
     have hmp:=hpl.1.1
     have hmin:=hpl.2
     have hsub:=mustHold_sub s.tasks[i]
     have x1:(i:Int)<s.tasks.length:=by omega
     have x3:(0:Int)≤i:=by omega
     have hru:=hrows.u
     have hlu:=hrows.lu
     have hstep:=holdTasks_step s h i hlt
     have HST:Hid (holdTasks H0 0 s.tasks=match holdAll h i (mustHold s.tasks[i]) with | none=>none | some h'=>holdTasks h' (i+1) (s.tasks.drop (i+1))):=Lib.hid (by rw [HA.out];exact hstep)
     have hohA:=fun o=>hoh.al o
     have hkrA:=fun o=>hkr.alloc o
     have hruA:=fun o=>hru.belowAll (alB wo o)
     have HO:=Lib.hid (And.intro hohA (And.intro hkrA hruA))
     clear hrows hstep hoh hpl hohA hkrA hruA HA hru
     go_wp2_with (go_at_call 127;refine(mustHold_calls s.tasks[i] R O D U cr co cd cu _ _ (HO.out.2.2 _) hlu hmp).mono ?_;rintro e w2 ⟨⟨A2,c2,rfl,hc2,hr2⟩,hb2⟩;have ho2:=(HO.out.1 _).belowAll hb2;have hk2:=(HO.out.2.1 _).trans (Keep.of_belowAll _ hb2))
     obtain⟨ml,hml⟩:∃ ml,ml=mustHold s.tasks[i]:=⟨_,rfl⟩
     rw [← hml] at hr2 hc2 hsub ⊢
     have hmlm:=hr2.1
     have HST2:Hid (holdTasks H0 0 s.tasks=match holdAll h i (ml.drop 0) with | none=>none | some h'=>holdTasks h' (i+1) (s.tasks.drop (i+1))):=Lib.hid (by rw [HST.out,hml,List.drop_zero])
     have HML:=Lib.hid hml
     have hzg:w.heap.size+1<w2.heap.size:=(ho2.blk _ rfl).2
     clear hml HST HO k0 k1 k2 k3 k4 k5 k6 k7 k8 k9 k10 k11 k12 hkr
     go_loopw [8,35] (fun _ c wr=>∃ (j:Nat) (h':List Int),j≤ml.length∧c=.int .i64 j∧Hid (holdTasks H0 0 s.tasks=match holdAll h' i (ml.drop j) with | none=>none | some h'=>holdTasks h' (i+1) (s.tasks.drop (i+1)))∧h'.length=s.cells.length∧OwnI 3 wr (w.heap.size+1) (.slice (some ⟨w.heap.size+1,0,none⟩) s.cells.length s.cells.length) h'∧Keep (fun b=>b=w.heap.size+1) V wr∧Keep (fun b=>b=w.heap.size+1) w2 wr) (fun _ c _=>ml.length-(intOf c).toNat)
     case atStart=>exact⟨0,h,Nat.zero_le _,rfl,HST2,hhl,ho2,hk2,Keep.refl _ _⟩
     case round =>
      obtain⟨j,h',hj,rfl,HB,hhl',hoh,hkr,hkw⟩:=hrel
      clear HST2 ho2 hk2
      have hfin:=keepg_below hbV hkr (Nat.le_succ _)
      by_cases hjl:j<ml.length
      ·obtain⟨ap,rfl,hlp,c0,c1⟩:=at_put (hr2.keep hkw (fun q hq _ e=>by omega)) hjl
       have hxin:=hmin _ (hsub.subset (List.getElem_mem hjl))
       obtain⟨q,hq⟩:∃ q:Nat,ml[j].cell=(q:Int):=⟨ml[j].cell.toNat,by omega⟩
       have hqc:q<s.cells.length:=by omega
       have hqh:q<h'.length:=by omega
       rw [hq] at c0
       have hoh':OwnI 3 wr (w.heap.size+1) (.slice (some ⟨w.heap.size+1,0,none⟩) h'.length s.cells.length) h':=by rw [hhl'];exact hoh
       have d:=fun o=>(hoh'.al o).cell (j:=q) hqh
       have d0:=fun o=>(d o).1
       have d1:=fun o=>(d o).2
       have hstep:=holdAll_step h' i ml j hjl
       rw [hq,Int.toNat_natCast,getD_at _ _ _ hqh] at hstep
       have hset:=fun o=>(hoh'.al o).set_ (j:=q) hqh (i:Int) (by unfold isI;omega)
       simp only [hhl'] at hset
       have hkA:=fun o=>(hkr.alloc o).setCell (p:=⟨w.heap.size+1,q,none⟩) (fun _=>rfl) (.int .i64 i)
       have hkB:=fun o=>(hkw.alloc o).setCell (p:=⟨w.heap.size+1,q,none⟩) (fun _=>rfl) (.int .i64 i)
       have hlen':(h'.set q (i:Int)).length=s.cells.length:=by rw [List.length_set];exact hhl'
       have x4:(q:Int)<s.cells.length:=by omega
       have x5:(0:Int)≤q:=by omega
       have x6:(j:Int)<ml.length:=by omega
       have x7:(0:Int)≤j:=by omega
       have HO:=Lib.hid (And.intro hset (And.intro hkA hkB))
       have hfinA:=fun o=>below_then hfin hfin.size (alB wr o)
       have HSTP:=Lib.hid hstep
       have HFA:=Lib.hid hfinA
       clear hoh hoh' d hstep hset hkA hkB hxin hq hfinA
       by_cases he:h'[q]=-1
       ·have b1:(h'[q] != -1)=false:=by simp [he]
        have HE:=Lib.hid he
        clear he
        go_wp2
        go_roundw
        case rel=>exact⟨j+1,h'.set q i,by omega,by go_num,by unfold Hid;rw [HB.out,HSTP.out,if_neg (fun x=>x HE.out)],hlen',HO.out.1 _,HO.out.2.1 _,HO.out.2.2 _⟩
        case measure=>simp [intOf];omega
       ·have b1:(h'[q] != -1)=true:=by simp [he]
        have HE:=Lib.hid he
        clear he
        go_wp2
        go_ret
        exact⟨ret_bool (by rw [HVAL.out,HB.out,HSTP.out,if_pos HE.out];rfl),HFA.out _⟩
      ·have HB2:Hid (holdTasks H0 0 s.tasks=holdTasks h' (i+1) (s.tasks.drop (i+1))):=Lib.hid (by rw [HB.out,List.drop_of_length_le (by omega)];rfl)
       go_wp2
       go_roundw
       case rel=>exact⟨i+1,h',by omega,by go_num,HB2,hhl',hoh,hkr⟩
       case measure=>simp [intOf];omega
    ·have z0:=(hkr.cell (p:=⟨w.heap.size,0,none⟩) hsV (by simp)).trans bs0
     have hval2:locksOkI s=(List.range s.cells.length).all fun i=>decide ((s.c i).lock=h.getD i 0):=by
      rw [HVAL.out,HA.out,List.drop_of_length_le (by omega)];rfl
     have HV2:=Lib.hid hval2
     clear hval2 HA HVAL
     go_wp2
     go_loopw [9,10,55] (fun _ _ c wr=>∃ k:Nat,k≤s.cells.length∧c=.int .i64 k∧Hid ((List.range k).all (fun i=>decide ((s.c i).lock=h.getD i 0))=true)∧OwnI 3 wr (w.heap.size+1) (.slice (some ⟨w.heap.size+1,0,none⟩) s.cells.length s.cells.length) h∧Keep (fun b=>b=w.heap.size+1) V wr) (fun _ _ c _=>s.cells.length-(intOf c).toNat)
     case atStart=>exact⟨0,Nat.zero_le _,rfl,by simp [Hid],hoh,hkr⟩
     case round =>
      obtain⟨k,hk,rfl,HK,hok,hkk⟩:=hrel
      clear hoh hkr z0
      have hfin:=keepg_below hbV hkk (Nat.le_succ _)
      by_cases hkl:k<s.cells.length
      ·obtain⟨ac,rfl,hlc,c0,c1,c2⟩:=at_cell (hCV.keep hkk (fun q hq _ e=>by omega)) hkl
       have hok':OwnI 3 wr (w.heap.size+1) (.slice (some ⟨w.heap.size+1,0,none⟩) h.length s.cells.length) h:=by rw [hhl];exact hok
       have hkh:k<h.length:=by omega
       obtain⟨d0,d1⟩:=hok'.cell (j:=k) hkh
       have d0':=fun o=>((alB wr o).cell (p:=⟨w.heap.size+1,k,none⟩) (hok'.blk _ rfl).2).trans d0
       have hget:h.getD k 0=h[k]:=getD_at _ _ _ hkh
       have hck:s.c (k:Int)=s.cells[k]:=sys_c hkl
       have HGET:=Lib.hid (And.intro hget hck)
       have x1:(k:Int)<s.cells.length:=by omega
       have x3:(0:Int)≤k:=by omega
       have hokA:=fun o=>hok.al o
       have hkkA:=fun o=>hkk.alloc o
       have HO:=Lib.hid (And.intro hokA hkkA)
       have hfinA:=fun o=>below_then hfin hfin.size (alB wr o)
       clear hok hok' hget hck hokA hkkA
       by_cases he:s.cells[k].lock=h[k]
       ·have b1:(s.cells[k].lock != h[k])=false:=by simp [he]
        have HE:=Lib.hid he
        clear he
        go_wp2
        go_quiet (fail)
        go_wp2
        go_roundw
        case rel=>exact⟨k+1,by omega,by go_num,by unfold Hid;rw [range_all_succ,HK.out,HGET.out.1,HGET.out.2,decide_eq_true HE.out];rfl,(HO.out.1 _).drewN _,(HO.out.2 _).drewN _⟩
        case measure=>simp [intOf];omega
       ·have b1:(s.cells[k].lock != h[k])=true:=by simp [he]
        have HE:=Lib.hid he
        clear he
        go_wp2
        go_quiet (fail)
        go_wp2
        go_ret
        exact⟨ret_bool (by rw [HV2.out,range_all_false _ _ k hkl (by rw [HGET.out.1,HGET.out.2,decide_eq_false HE.out])]),by repeat' (first | exact hfinA _ | apply below_drewN1)⟩
      ·have HB:Hid (locksOkI s=true):=Lib.hid (by rw [HV2.out];have:=HK.out;rw [show k=s.cells.length by omega] at this;exact this)
       go_wp2
       go_ret
       exact⟨ret_bool HB.out.symm,hfin⟩
end Go.Proofs.YtjacjafmimgfcaaGreat
namespace Go.Proofs.YtjacjafmimgfcaaGreat
open Go.RowKit
theorem entryOkI_parts (p:Prog)(s:Sys)(e:Entry)(i:Nat):entryOkI p s e i=(inR e.task 0 ((s.tasks.length:Int)-1) && (inR e.act 0 (((p.acts (s.t e.task.toNat).body).length:Int)-1) && (inR e.whn 0 s.clock && (inR e.frm 0 i && (putsOk e.reads s.cells.length && putsOk e.puts s.cells.length))))):=by
 unfold entryOkI
 simp only [Bool.and_assoc]
theorem logOkI_calls (p:Prog)(s:Sys)(P Q A B C:Option Addr)(cp cq ca cb cc:Nat)(w:World)(S:Nat→Prop)(hQ:Row (Kd.slice kAct) w S Q p.bodies)(hT:Row kTask w S B s.tasks)(hL:Row kEntry w S C s.log)(hnc:s.cells.length≤1000)(hbody:∀ k,k<s.tasks.length→0≤(s.t k).body∧(s.t k).body<p.bodies.length) :
  Calls Tryz.prog 88 #[.agg #[.slice P p.cells.length cp,.slice Q p.bodies.length cq],.agg #[.slice A s.cells.length ca,.slice B s.tasks.length cb,.int .i64 s.clock,.slice C s.log.length cc]] w fun e w'=>e=.returned (.bool (logOkI p s))∧Below w.heap.size w w':=by
 have hml:=hL.1
 have hmt:=hT.1
 have hmq:=hQ.1
 obtain⟨W,HW⟩:∃ W,W=(w.alloc (Obj.cells #[.slice P p.cells.length cp,.slice Q p.bodies.length cq] 39)).alloc (Obj.cells #[.slice A s.cells.length ca,.slice B s.tasks.length cb,.int .i64 s.clock,.slice C s.log.length cc] 45):=⟨_,rfl⟩
 have hbW:Below w.heap.size w W:=by rw [HW];exact alB2 w _ _
 have hzW:W.heap.size=w.heap.size+2:=by rw [HW];simp
 have bs3:W.cell? ⟨w.heap.size+1,3,none⟩=some (.slice C s.log.length cc):=by rw [HW];simp [go_sem]
 have bs0:W.cell? ⟨w.heap.size+1,0,none⟩=some (.slice A s.cells.length ca):=by rw [HW];simp [go_sem]
 have bs1:W.cell? ⟨w.heap.size+1,1,none⟩=some (.slice B s.tasks.length cb):=by rw [HW];simp [go_sem]
 have bs2:W.cell? ⟨w.heap.size+1,2,none⟩=some (.int .i64 s.clock):=by rw [HW];simp [go_sem]
 have bp1:W.cell? ⟨w.heap.size,1,none⟩=some (.slice Q p.bodies.length cq):=by rw [HW];simp [go_sem]
 have hs:w.heap.size+1<W.heap.size:=by omega
 have hp:w.heap.size<W.heap.size:=by omega
 have HZ:=Lib.hid hzW
 have HWW:=Lib.hid HW
 clear HW hzW
 go_enter Tryz.func88,Tryz.ntmps88
 go_wp2
 rw [← HWW.out]
 go_loopw [5,6,10] (fun _ _ c wr=>∃ k:Nat,k≤s.log.length∧c=.int .i64 k∧Hid ((List.range k).all (fun i=>entryOkI p s (s.log.getD i noEntry) i)=true)∧Below W.heap.size W wr) (fun _ _ c _=>s.log.length-(intOf c).toNat)
 case atStart=>exact⟨0,Nat.zero_le _,rfl,by simp [Hid],Below.refl _ _⟩
 case round =>
  obtain⟨i,hi,rfl,HA,hbr⟩:=hrel
  have zs0:=(hbr.cell (p:=⟨w.heap.size+1,0,none⟩) hs).trans bs0;have zs1:=(hbr.cell (p:=⟨w.heap.size+1,1,none⟩) hs).trans bs1;have zs2:=(hbr.cell (p:=⟨w.heap.size+1,2,none⟩) hs).trans bs2;have zp1:=(hbr.cell (p:=⟨w.heap.size,1,none⟩) hp).trans bp1
  by_cases hlt:i<s.log.length
  ·obtain⟨wo,rfl⟩:∃ wo:World,wo=wr:=⟨_,rfl⟩
   have hbo:Below w.heap.size w wo:=below_then hbW hbW.size hbr
   obtain⟨ac,D,U,cd,cu,rfl,hlc,hrows,hat⟩:=at_entry (hL.belowAll hbo) hlt
   obtain⟨k0,k1,k2,k3,k4,k5⟩:=hat
   obtain⟨hrl,hul,hrd,hru⟩:=hrows
   have x1:(i:Int)<s.log.length:=by omega
   have x3:(0:Int)≤i:=by omega
   have hsw:w.heap.size+1<wo.heap.size:=Nat.lt_of_lt_of_le hs hbr.size
   have hpw:w.heap.size<wo.heap.size:=Nat.lt_of_lt_of_le hp hbr.size
   have zts0:=fun o=>((alB wo o).cell (p:=⟨w.heap.size+1,0,none⟩) hsw).trans zs0
   have zts1:=fun o=>((alB wo o).cell (p:=⟨w.heap.size+1,1,none⟩) hsw).trans zs1
   have zts2:=fun o=>((alB wo o).cell (p:=⟨w.heap.size+1,2,none⟩) hsw).trans zs2
   have ztp1:=fun o=>((alB wo o).cell (p:=⟨w.heap.size,1,none⟩) hpw).trans zp1
   have hbo1:=fun o=>below_then hbo hbo.size (alB wo o)
   have HG:Hid (s.log.getD i noEntry=s.log[i]):=Lib.hid (getD_at _ _ _ hlt)
   have HP:=Lib.hid (entryOkI_parts p s s.log[i] i)
   have hbad:entryOkI p s s.log[i] i=false→logOkI p s=false:=fun h=>range_all_false _ _ i hlt (by rw [getD_at _ _ _ hlt];exact h)
   have HBAD:=Lib.hid hbad
   clear hbad hrl hul
   have hfin:∀ o n,Below w.heap.size w ((wo.alloc o).drewN n):=fun o n=>below_drewN' (hbo1 o) n
   have en0:∀ V,V=wo.alloc (Obj.cells #[.int .i64 s.log[i].task,.int .i64 s.log[i].act,.int .i64 s.log[i].whn,.slice D s.log[i].reads.length cd,.slice U s.log[i].puts.length cu,.int .i64 s.log[i].frm] 68)→V.cell? ⟨wo.heap.size,0,none⟩=some (.int .i64 s.log[i].task):=by intro V h;rw [h];simp [go_sem]
   have en1:∀ V,V=wo.alloc (Obj.cells #[.int .i64 s.log[i].task,.int .i64 s.log[i].act,.int .i64 s.log[i].whn,.slice D s.log[i].reads.length cd,.slice U s.log[i].puts.length cu,.int .i64 s.log[i].frm] 68)→V.cell? ⟨wo.heap.size,1,none⟩=some (.int .i64 s.log[i].act):=by intro V h;rw [h];simp [go_sem]
   have en2:∀ V,V=wo.alloc (Obj.cells #[.int .i64 s.log[i].task,.int .i64 s.log[i].act,.int .i64 s.log[i].whn,.slice D s.log[i].reads.length cd,.slice U s.log[i].puts.length cu,.int .i64 s.log[i].frm] 68)→V.cell? ⟨wo.heap.size,2,none⟩=some (.int .i64 s.log[i].whn):=by intro V h;rw [h];simp [go_sem]
   have en3:∀ V,V=wo.alloc (Obj.cells #[.int .i64 s.log[i].task,.int .i64 s.log[i].act,.int .i64 s.log[i].whn,.slice D s.log[i].reads.length cd,.slice U s.log[i].puts.length cu,.int .i64 s.log[i].frm] 68)→V.cell? ⟨wo.heap.size,3,none⟩=some (.slice D s.log[i].reads.length cd):=by intro V h;rw [h];simp [go_sem]
   have en4:∀ V,V=wo.alloc (Obj.cells #[.int .i64 s.log[i].task,.int .i64 s.log[i].act,.int .i64 s.log[i].whn,.slice D s.log[i].reads.length cd,.slice U s.log[i].puts.length cu,.int .i64 s.log[i].frm] 68)→V.cell? ⟨wo.heap.size,4,none⟩=some (.slice U s.log[i].puts.length cu):=by intro V h;rw [h];simp [go_sem]
   have en5:∀ V,V=wo.alloc (Obj.cells #[.int .i64 s.log[i].task,.int .i64 s.log[i].act,.int .i64 s.log[i].whn,.slice D s.log[i].reads.length cd,.slice U s.log[i].puts.length cu,.int .i64 s.log[i].frm] 68)→V.cell? ⟨wo.heap.size,5,none⟩=some (.int .i64 s.log[i].frm):=by intro V h;rw [h];simp [go_sem]
   cases e1:inR s.log[i].task 0 ((s.tasks.length:Int)-1) with
   | false =>
    have hc1:=fun o=>isPlace_drew _ _ (by omega) _ e1 (wo.alloc o)
    have E1:=Lib.hid e1
    clear e1
    go_wp2
    go_quiet (first | (go_at_call 89;with_reducible refine Calls.quiet_of_same (hc1 _ _)))
    go_wp2
    go_ret
    exact⟨ret_bool (HBAD.out (by rw [HP.out,E1.out];rfl)).symm,hfin _ _⟩
   | true =>
    have hrg:0≤s.log[i].task∧s.log[i].task≤(s.tasks.length:Int)-1:=by simpa [inR] using e1
    have hc1:=fun o=>isPlace_drew _ _ (by omega) _ e1 (wo.alloc o)
    have E1:=Lib.hid e1
    clear e1
    obtain⟨z,hz⟩:∃ z:Nat,s.log[i].task=(z:Int):=⟨s.log[i].task.toNat,by omega⟩
    have hzl:z<s.tasks.length:=by omega
    have hbz:=hbody z hzl
    rw [sys_t hzl] at hbz
    obtain⟨b,hbn⟩:∃ b:Nat,s.tasks[z].body=(b:Int):=⟨s.tasks[z].body.toNat,by omega⟩
    have hbl:b<p.bodies.length:=by omega
    obtain⟨ad,R,O,D',U',cr,co,cd',cu',rfl,hl,hrows,hat⟩:=at_task (hT.belowAll hbo) hzl
    have hlz:(ad.add (z*13)).block<wo.heap.size:=by rw [block_add];exact hl
    have j0:=fun o=>((alB wo o).cell (p:=ad.add (z*13)) hlz).trans hat.c0
    simp only [hbn] at j0
    have j0':∀ o,(wo.alloc o).cell? (ad.add (s.log[i].task.toNat*13))=some (.int .i64 (b:Nat)):=by rw [hz,Int.toNat_natCast];exact j0
    obtain⟨ae,E,ce,rfl,hle,hce,hcel,hE⟩:=at_slice (hQ.belowAll hbo) hbl
    have hlb:(ae.add b).block<wo.heap.size:=by rw [block_add];exact hle
    have b0:=fun o=>((alB wo o).cell (p:=ae.add b) hlb).trans hce
    have hme:=hE.1
    have hacts:p.acts (s.t s.log[i].task.toNat).body=p.bodies[b]:=by rw [hz,Int.toNat_natCast,sys_t hzl,hbn];unfold Prog.acts;rw [Int.toNat_natCast];exact getD_at _ _ _ hbl
    have HAC:=Lib.hid hacts
    have y1:s.log[i].task<s.tasks.length:=by omega
    have y2:(0:Int)≤s.log[i].task:=by omega
    have y3:(b:Int)<p.bodies.length:=by omega
    have y4:(0:Int)≤b:=by omega
    clear hz hbn hacts hat hrows hrg hbz j0 hce
    cases e2:inR s.log[i].act 0 ((p.bodies[b].length:Int)-1) with
    | false =>
     have hc2:=fun o=>isPlace_drew _ _ (by omega) _ e2 (wo.alloc o)
     have E2:=Lib.hid e2
     clear e2
     go_wp2
     go_quiet (first | (go_at_call 89;with_reducible refine Calls.quiet_of_same (hc1 _ _)) | (go_at_call 89;with_reducible refine Calls.quiet_of_same (hc2 _ _)))
     go_wp2
     go_ret
     exact⟨ret_bool (HBAD.out (by rw [HP.out,E1.out,HAC.out,E2.out];rfl)).symm,hfin _ _⟩
    | true =>
     have hc2:=fun o=>isPlace_drew _ _ (by omega) _ e2 (wo.alloc o)
     have E2:=Lib.hid e2
     clear e2
     by_cases f3:s.log[i].whn<0
     ·have G3:=Lib.hid (show inR s.log[i].whn 0 s.clock=false from inR_lt f3)
      go_wp2
      go_quiet (first | (go_at_call 89;with_reducible refine Calls.quiet_of_same (hc1 _ _)) | (go_at_call 89;with_reducible refine Calls.quiet_of_same (hc2 _ _)))
      go_wp2
      go_ret
      exact⟨ret_bool (HBAD.out (by rw [HP.out,E1.out,HAC.out,E2.out,G3.out];rfl)).symm,hfin _ _⟩
     by_cases g3:s.log[i].whn > s.clock
     ·have G3:=Lib.hid (show inR s.log[i].whn 0 s.clock=false from inR_gt g3)
      go_wp2
      go_quiet (first | (go_at_call 89;with_reducible refine Calls.quiet_of_same (hc1 _ _)) | (go_at_call 89;with_reducible refine Calls.quiet_of_same (hc2 _ _)))
      go_wp2
      go_ret
      exact⟨ret_bool (HBAD.out (by rw [HP.out,E1.out,HAC.out,E2.out,G3.out];rfl)).symm,hfin _ _⟩
     have G3:=Lib.hid (show inR s.log[i].whn 0 s.clock=true from inR_in (by omega) (by omega))
     by_cases f4:s.log[i].frm<0
     ·have G4:=Lib.hid (show inR s.log[i].frm 0 i=false from inR_lt f4)
      go_wp2
      go_quiet (first | (go_at_call 89;with_reducible refine Calls.quiet_of_same (hc1 _ _)) | (go_at_call 89;with_reducible refine Calls.quiet_of_same (hc2 _ _)))
      go_wp2
      go_ret
      exact⟨ret_bool (HBAD.out (by rw [HP.out,E1.out,HAC.out,E2.out,G3.out,G4.out];rfl)).symm,hfin _ _⟩
     by_cases g4:s.log[i].frm > (i:Int)
     ·have G4:=Lib.hid (show inR s.log[i].frm 0 i=false from inR_gt g4)
      go_wp2
      go_quiet (first | (go_at_call 89;with_reducible refine Calls.quiet_of_same (hc1 _ _)) | (go_at_call 89;with_reducible refine Calls.quiet_of_same (hc2 _ _)))
      go_wp2
      go_ret
      exact⟨ret_bool (HBAD.out (by rw [HP.out,E1.out,HAC.out,E2.out,G3.out,G4.out];rfl)).symm,hfin _ _⟩
     have G4:=Lib.hid (show inR s.log[i].frm 0 i=true from inR_in (by omega) (by omega))
     have tok4:True:=trivial
     have dz:∀ n w',Below ((wo.alloc (Obj.cells #[.int .i64 s.log[i].task,.int .i64 s.log[i].act,.int .i64 s.log[i].whn,.slice D s.log[i].reads.length cd,.slice U s.log[i].puts.length cu,.int .i64 s.log[i].frm] 68)).drewN n).heap.size ((wo.alloc (Obj.cells #[.int .i64 s.log[i].task,.int .i64 s.log[i].act,.int .i64 s.log[i].whn,.slice D s.log[i].reads.length cd,.slice U s.log[i].puts.length cu,.int .i64 s.log[i].frm] 68)).drewN n) w'→Below wo.heap.size wo w'∧w'.cell? ⟨wo.heap.size,4,none⟩=some (.slice U s.log[i].puts.length cu):=by
      intro n w' h
      exact⟨below_then (below_drewN' (alB wo _) n) (by simp) h,(h.cell (p:=⟨wo.heap.size,4,none⟩) (by simp)).trans (((below_drewN' (Below.refl (wo.alloc (Obj.cells #[.int .i64 s.log[i].task,.int .i64 s.log[i].act,.int .i64 s.log[i].whn,.slice D s.log[i].reads.length cd,.slice U s.log[i].puts.length cu,.int .i64 s.log[i].frm] 68)).heap.size (wo.alloc (Obj.cells #[.int .i64 s.log[i].task,.int .i64 s.log[i].act,.int .i64 s.log[i].whn,.slice D s.log[i].reads.length cd,.slice U s.log[i].puts.length cu,.int .i64 s.log[i].frm] 68))) n).cell (p:=⟨wo.heap.size,4,none⟩) (by simp)).trans (en4 _ rfl))⟩
     cases e5:putsOk s.log[i].reads s.cells.length with
     | false =>
      have E5:=Lib.hid e5
      clear e5
      go_wp2
      go_quiet (first | (go_at_call 89;with_reducible refine Calls.quiet_of_same (hc1 _ _)) | (go_at_call 89;with_reducible refine Calls.quiet_of_same (hc2 _ _)))
      go_wp2_with (first | (go_at_call 123;have _t:=tok4;refine(putsOk_calls s.log[i].reads D cd _ _ S (Row.drewN (hrd.belowAll (alB wo _)) _) (by omega) (by omega)).mono ?_;rintro e w5 ⟨rfl,hb5⟩;rw [E5.out];obtain⟨q5,f4⟩:=dz _ _ hb5;have qq5:Below W.heap.size W w5:=below_then hbr hbr.size q5;have ys0:=(qq5.cell (p:=⟨w.heap.size+1,0,none⟩) hs).trans bs0;have ys1:=(qq5.cell (p:=⟨w.heap.size+1,1,none⟩) hs).trans bs1;have ys2:=(qq5.cell (p:=⟨w.heap.size+1,2,none⟩) hs).trans bs2;have yp1:=(qq5.cell (p:=⟨w.heap.size,1,none⟩) hp).trans bp1;clear tok4))
      go_ret
      exact⟨ret_bool (HBAD.out (by rw [HP.out,E1.out,HAC.out,E2.out,G3.out,G4.out,E5.out];rfl)).symm,below_then hbo hbo.size q5⟩
     | true =>
      have E5:=Lib.hid e5
      clear e5
      cases e6:putsOk s.log[i].puts s.cells.length
      ·have E6:=Lib.hid e6
       clear e6
       go_wp2
       go_quiet (first | (go_at_call 89;with_reducible refine Calls.quiet_of_same (hc1 _ _)) | (go_at_call 89;with_reducible refine Calls.quiet_of_same (hc2 _ _)))
       go_wp2_with (first | (go_at_call 123;have _t:=tok4;refine(putsOk_calls s.log[i].reads D cd _ _ S (Row.drewN (hrd.belowAll (alB wo _)) _) (by omega) (by omega)).mono ?_;rintro e w5 ⟨rfl,hb5⟩;rw [E5.out];obtain⟨q5,f4⟩:=dz _ _ hb5;have qq5:Below W.heap.size W w5:=below_then hbr hbr.size q5;have ys0:=(qq5.cell (p:=⟨w.heap.size+1,0,none⟩) hs).trans bs0;have ys1:=(qq5.cell (p:=⟨w.heap.size+1,1,none⟩) hs).trans bs1;have ys2:=(qq5.cell (p:=⟨w.heap.size+1,2,none⟩) hs).trans bs2;have yp1:=(qq5.cell (p:=⟨w.heap.size,1,none⟩) hp).trans bp1;clear tok4) | (go_at_call 123;refine(putsOk_calls s.log[i].puts U cu _ _ S (hru.belowAll q5) (by omega) (by omega)).mono ?_;rintro e w6 ⟨rfl,hb6⟩;rw [E6.out];have q6:Below wo.heap.size wo w6:=below_then q5 q5.size hb6;have qq6:Below W.heap.size W w6:=below_then hbr hbr.size q6))
       go_ret
       exact⟨ret_bool (HBAD.out (by rw [HP.out,E1.out,HAC.out,E2.out,G3.out,G4.out,E5.out,E6.out];rfl)).symm,below_then hbo hbo.size q6⟩
      ·have E6:=Lib.hid e6
       clear e6
       go_wp2
       go_quiet (first | (go_at_call 89;with_reducible refine Calls.quiet_of_same (hc1 _ _)) | (go_at_call 89;with_reducible refine Calls.quiet_of_same (hc2 _ _)))
       go_wp2_with (first | (go_at_call 123;have _t:=tok4;refine(putsOk_calls s.log[i].reads D cd _ _ S (Row.drewN (hrd.belowAll (alB wo _)) _) (by omega) (by omega)).mono ?_;rintro e w5 ⟨rfl,hb5⟩;rw [E5.out];obtain⟨q5,f4⟩:=dz _ _ hb5;have qq5:Below W.heap.size W w5:=below_then hbr hbr.size q5;have ys0:=(qq5.cell (p:=⟨w.heap.size+1,0,none⟩) hs).trans bs0;have ys1:=(qq5.cell (p:=⟨w.heap.size+1,1,none⟩) hs).trans bs1;have ys2:=(qq5.cell (p:=⟨w.heap.size+1,2,none⟩) hs).trans bs2;have yp1:=(qq5.cell (p:=⟨w.heap.size,1,none⟩) hp).trans bp1;clear tok4) | (go_at_call 123;refine(putsOk_calls s.log[i].puts U cu _ _ S (hru.belowAll q5) (by omega) (by omega)).mono ?_;rintro e w6 ⟨rfl,hb6⟩;rw [E6.out];have q6:Below wo.heap.size wo w6:=below_then q5 q5.size hb6;have qq6:Below W.heap.size W w6:=below_then hbr hbr.size q6))
       go_roundw
       case rel=>exact⟨i+1,by omega,by go_num,by unfold Hid;rw [range_all_succ,HA.out,HG.out,HP.out,E1.out,HAC.out,E2.out,G3.out,G4.out,E5.out,E6.out];rfl,qq6⟩
       case measure=>simp [intOf];omega
  ·have HB:Hid (logOkI p s=true):=Lib.hid (by have:=HA.out;rw [show i=s.log.length by omega] at this;exact this)
   go_wp2
   go_ret
   exact⟨ret_bool HB.out.symm,below_then hbW hbW.size hbr⟩
end Go.Proofs.YtjacjafmimgfcaaGreat
