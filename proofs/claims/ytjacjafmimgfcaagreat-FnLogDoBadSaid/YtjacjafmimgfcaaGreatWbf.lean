/- How much a step lets a system grow.; A run of turns keeps a system in order, and grows it little.; Round by round: what the two loops keep.; A new system is in order.; Rounds keep a system in order; what is known of its changes. -/
import Derived.Test.YtjacjafmimgfcaaGreatWaq
import Derived.Test.YtjacjafmimgfcaaGreatWbb
set_option linter.unusedVariables false
set_option linter.unusedSimpArgs false
namespace Go.Proofs.YtjacjafmimgfcaaGreat
theorem filter_grow (p q:Nat→Bool)(k:Nat)(he:∀ i,i≠k→q i=p i):∀ n,((List.range n).filter q).length≤((List.range n).filter p).length+(if k<n then 1 else 0):=by
 intro n
 induction n with
 | zero=>simp
 | succ n ih =>
  rw [List.range_succ,List.filter_append,List.filter_append,List.length_append,List.length_append]
  by_cases hk:n=k
  ·subst hk
   rw [if_neg (by omega)] at ih
   rw [if_pos (by omega)]
   have:([n].filter q).length≤1:=List.length_filter_le _ _
   omega
  ·have h2:[n].filter q=[n].filter p:=List.filter_congr fun i hi=>he i (by rw [List.mem_singleton] at hi;omega)
   rw [h2]
   by_cases h:k<n
   ·rw [if_pos h] at ih;rw [if_pos (by omega)];omega
   ·rw [if_neg h] at ih;rw [if_neg (by omega)];omega
theorem filter_more (q:Nat→Bool)(n:Nat):∀ m,((List.range (n+m)).filter q).length≤((List.range n).filter q).length+m:=by
 intro m
 induction m with
 | zero=>simp
 | succ m ih =>
  rw [← Nat.add_assoc,List.range_succ,List.filter_append,List.length_append]
  have:([n+m].filter q).length≤1:=List.length_filter_le _ _
  omega
theorem live_grow {s s':Sys}{k m:Nat}(hn:s'.tasks.length=s.tasks.length+m)(ho:∀ j,j≠k→j<s.tasks.length→s'.t j=s.t j):liveN s'≤liveN s+m+1:=by
 unfold liveN
 rw [hn]
 have h1:=filter_more (fun i=>isLive (s'.t i)) s.tasks.length m
 have h2:=filter_grow (fun i=>isLive (s.t i)) (fun i=>if i<s.tasks.length then isLive (s'.t i) else isLive (s.t i)) k (fun i hi=>by
  by_cases h:i<s.tasks.length
  ·simp only [if_pos h];rw [ho i hi h]
  ·simp only [if_neg h]) s.tasks.length
 have h3:(List.range s.tasks.length).filter (fun i=>if i<s.tasks.length then isLive (s'.t i) else isLive (s.t i))=(List.range s.tasks.length).filter (fun i=>isLive (s'.t i)):=List.filter_congr fun i hi=>by rw [if_pos (List.mem_range.1 hi)]
 rw [h3] at h2
 split at h2<;>omega
section
variable {p:Prog}{s:Sys}{k:Nat}
theorem endS_log (s:Sys)(k:Nat)(w:Int):(endS s k w).log.length=s.log.length+1:=by simp [endS]
theorem oneDeed_log (s:Sys)(k:Nat)(d:Deed):(oneDeed s k d).log=s.log:=by
 unfold oneDeed
 dsimp only
 repeat' (first | rfl | split | (unfold loadS;dsimp only))
theorem tryS_log (s:Sys)(k:Nat)(ds:List Deed):(tryS s k ds).log.length≤s.log.length+1:=by
 unfold tryS beginS deedS lockS timeS checkS writeS
 dsimp only
 repeat' split
 all_goals first
  | (rw [endS_log];exact Nat.le_refl _) | (rw [oneDeed_log];omega)
  | exact Nat.le_succ _
theorem mass_set (hk:k<s.tasks.length)(t:Task):mass (s.setT k t)≤mass s+1:=by
 have h:=live_grow (s:=s) (s':=s.setT k t) (k:=k) (m:=0) (by simp [Sys.setT]) (fun j hj _=>by show ({ s with tasks:=s.tasks.set k t }:Sys).t j=_;rw [t_set hk,if_neg hj])
 unfold mass
 have:(s.setT k t).log=s.log:=rfl
 rw [this]
 omega
theorem mass_fr {s':Sys}(hf:Fr k s s')(hl:s'.log.length≤s.log.length+1):mass s'≤mass s+2:=by
 have h:=live_grow (s:=s) (s':=s') (k:=k) (m:=0) hf.n (fun j hj _=>hf.out j hj)
 unfold mass
 omega
theorem stepS_grow (hI:SInv p s)(hk:k<s.tasks.length):(stepS p s k).tasks.length≤s.tasks.length+2∧mass (stepS p s k)≤mass s+4:=by
 have hs:∀ (s2:Sys) (w:Int),(setWay s2 k w).tasks.length=s2.tasks.length:=fun s2 w=>by simp [setWay,Sys.setT]
 unfold stepS
 dsimp only
 split
 ·unfold awaitS
  split
  ·have hO:=offTo_ok (p:=p) (n:=s.tasks.length) hI hk (by omega) s.tasks.length (Nat.le_refl _)
   have e:(kidList s k).foldl (offS s.tasks.length) s=offTo s.tasks.length s k s.tasks.length:=rfl
   rw [e]
   have h1:=hO.n
   have h2:=hO.mass
   have h3:=mass_set (s:=offTo s.tasks.length s k s.tasks.length) (k:=k) (by rw [h1];exact hk) { (offTo s.tasks.length s k s.tasks.length).t k with way:=3 }
   refine⟨by rw [hs,h1];omega,?_⟩
   unfold setWay
   omega
  ·have h3:=mass_set hk { s.t k with way:=0,pc:=(s.t k).pc+1 }
   exact⟨by simp [Sys.setT],by omega⟩
 ·split
  ·have h3:=mass_set hk { s.t k with way:=2 }
   exact⟨by rw [hs];omega,by unfold setWay;omega⟩
  ·rename_i hth
   have hl:(s.t k).pc<(p.acts (s.t k).body).length:=(there_iff p (s.t k)).1 (by simpa using hth)
   split
   ·have hf:=Fr.try_ (s:=s) hk (p.act (s.t k)).deeds
    have h2:=mass_fr hf (tryS_log s k _)
    exact⟨by rw [hf.n];omega,by omega⟩
   ·split
    ·rename_i ha
     have hkl:=(act_kids hI.prog (hI.t k hk) hl ha).1
     refine⟨by unfold forkS;rw [hs];simp;omega,?_⟩
     have h:=live_grow (s:=s) (s':=forkS s k (p.act (s.t k)).kids) (k:=k) (m:=(p.act (s.t k)).kids.length) (by unfold forkS;rw [hs];simp) (fun j hj hl=>by
      unfold forkS
      rw [way_t (by simp;omega),if_neg hj]
      unfold Sys.t
      rw [List.getD_eq_getElem?_getD,List.getD_eq_getElem?_getD]
      simp only []
      rw [List.getElem?_append_left hl]
      exact(List.getD_eq_getElem?_getD ..).symm)
     have hlog:(forkS s k (p.act (s.t k)).kids).log=s.log:=rfl
     unfold mass
     rw [hlog]
     omega
    ·split
     ·have h3:=mass_set hk { s.t k with way:=3 }
      exact⟨by rw [hs];omega,by unfold setWay;omega⟩
     ·exact⟨by simp [Sys.setT],Nat.le_trans (mass_set hk _) (by omega)⟩
end
end Go.Proofs.YtjacjafmimgfcaaGreat
namespace Go.Proofs.YtjacjafmimgfcaaGreat
structure RunOk (p:Prog) (s:Sys) (n q:Nat):Prop where
 inv:SInv p s
 win:WInv p s
 tasks:s.tasks.length≤n
 mass:mass s≤q
theorem RunOk.log {p:Prog}{s:Sys}{n q:Nat}(h:RunOk p s n q):s.log.length≤q:=Nat.le_trans (Nat.le_add_right _ _) h.mass
theorem RunOk.do_ {p:Prog}{s:Sys}{n q:Nat}(h:RunOk p s n q)(k:Int):RunOk p ((doS p s k).getD s) (n+2) (q+4):=by
 have h1:=h.tasks
 have h2:=h.mass
 unfold doS
 by_cases hc:(inR k 0 ((s.tasks.length:Int)-1) && readyS s k.toNat)=true
 ·rw [if_pos hc]
  simp only [Bool.and_eq_true,inR,decide_eq_true_eq] at hc
  have hk:k.toNat<s.tasks.length:=by omega
  have ho:=stepS_ok h.inv h.win hk hc.2
  have hg:=stepS_grow h.inv hk
  exact⟨ho.1,ho.2,Nat.le_trans hg.1 (by omega),Nat.le_trans hg.2 (by omega)⟩
 ·rw [if_neg hc]
  exact⟨h.inv,h.win,Nat.le_trans h1 (by omega),Nat.le_trans h2 (by omega)⟩
theorem runS_snoc (p:Prog)(k:Int):∀ (l:List Int)(s:Sys),runS p s (l ++ [k])=(doS p (runS p s l) k).getD (runS p s l):=by
 intro l
 induction l with
 | nil=>intro s;rfl
 | cons x l ih=>intro s;exact ih _
theorem RunOk.run {p:Prog}:∀ (l:List Int){s:Sys}{n q:Nat},RunOk p s n q→RunOk p (runS p s l) (n+2*l.length) (q+4*l.length):=by
 intro l
 induction l with
 | nil=>intro s n q h;exact h
 | cons x l ih =>
  intro s n q h
  have:=ih (h.do_ x)
  refine⟨this.inv,this.win,Nat.le_trans this.tasks (by simp;omega),Nat.le_trans this.mass (by simp;omega)⟩
theorem RunOk.start {p:Prog}{s:Sys}(h:sysOk p s=true)(hl:s.log.length≤100000):RunOk p s 7 100007:=by
 obtain⟨h1,h2,h3⟩:=sysOk_iff.1 h
 have:=liveN_le s
 exact⟨h1,h2,h3,by show s.log.length+liveN s≤100007;omega⟩
theorem run_next (p:Prog)(s:Sys)(l:List Int)(i:Nat)(h:i<l.length):runS p s (l.take (i+1))=(doS p (runS p s (l.take i)) l[i]).getD (runS p s (l.take i)):=by
 rw [List.take_succ_eq_append_getElem h,runS_snoc]
end Go.Proofs.YtjacjafmimgfcaaGreat
namespace Go.Proofs.YtjacjafmimgfcaaGreat
def InRound (p:Prog) (R:Sys × Nat × Bool) (Y:Sys) (i left:Nat) (b:Bool):Prop:=∃ n,Y.tasks.length+3*left≤n+i∧roundS p n Y i left b=R
theorem InRound.start (p:Prog)(Y:Sys)(left:Nat):InRound p (roundS p (Y.tasks.length+3*left) Y 0 left false) Y 0 left false:=⟨_,Nat.le_refl _,rfl⟩
section
variable {p:Prog}{R:Sys × Nat × Bool}{Y Z:Sys}{i left:Nat}{b:Bool}
theorem InRound.yes (h:InRound p R Y i left b)(hi:i<Y.tasks.length)(hl:0<left)(hd:doS p Y i=some Z)(hg:Z.tasks.length≤Y.tasks.length+2):InRound p R Z (i+1) (left-1) true:=by
 obtain⟨n,hn,e⟩:=h
 cases n with
 | zero=>omega
 | succ n =>
  rw [roundS,if_pos ⟨hi,hl⟩,hd] at e
  exact⟨n,by omega,e⟩
theorem InRound.no (h:InRound p R Y i left b)(hi:i<Y.tasks.length)(hl:0<left)(hd:doS p Y i=none):InRound p R Y (i+1) left b:=by
 obtain⟨n,hn,e⟩:=h
 cases n with
 | zero=>omega
 | succ n =>
  rw [roundS,if_pos ⟨hi,hl⟩,hd] at e
  exact⟨n,by omega,e⟩
theorem InRound.fin (h:InRound p R Y i left b)(hc:¬ (i<Y.tasks.length∧0<left)):R=(Y,left,b):=by
 obtain⟨n,hn,e⟩:=h
 cases n with
 | zero=>exact e.symm
 | succ n=>rw [roundS,if_neg hc] at e;exact e.symm
def OutR (p:Prog) (T:Sys) (Y:Sys) (left:Nat) (b:Bool):Prop:=∃ m,left<m∧(b=true→restS p m Y left=T)∧(b=false→Y=T)
theorem OutR.start (p:Prog)(s:Sys)(most:Nat):OutR p (restS p (most+1) s most) s most true:=⟨most+1,by omega,fun _=>rfl,fun h=>by cases h⟩
variable {T:Sys}
theorem OutR.next (h:OutR p T Y left true)(hl:0<left)(hR:R=roundS p (Y.tasks.length+3*left) Y 0 left false)(hd:R.2.1+(if R.2.2 then 1 else 0)≤left):OutR p T R.1 R.2.1 R.2.2:=by
 obtain⟨m,hm,e,_⟩:=h
 have e:=e rfl
 cases m with
 | zero=>omega
 | succ m =>
  rw [restS,if_pos hl,← hR] at e
  dsimp only at e
  cases hb:R.2.2 with
  | true =>
   rw [hb,if_pos rfl] at e
   rw [hb,if_pos rfl] at hd
   exact⟨m,by omega,fun _=>e,fun h=>by cases h⟩
  | false =>
   rw [hb,if_neg (by decide)] at e
   exact⟨R.2.1+1,by omega,fun h=>(by cases h),fun _=>e⟩
theorem OutR.fin (h:OutR p T Y left b)(hc:¬ (b=true∧0<left)):Y=T:=by
 obtain⟨m,hm,e,e2⟩:=h
 cases b with
 | false=>exact e2 rfl
 | true =>
  have hl:left=0:=by
   rcases Nat.eq_zero_or_pos left with h | h
   ·exact h
   ·exact absurd ⟨rfl,h⟩ hc
  subst hl
  have e:=e rfl
  cases m with
  | zero=>omega
  | succ m=>rw [restS,if_neg (by decide)] at e;exact e
end
theorem RunOk.more {p:Prog}{s:Sys}{c d:Nat}(h:RunOk p s (7+2*c) (100007+4*c))(k:Int)(hd:c+1≤d):RunOk p ((doS p s k).getD s) (7+2*d) (100007+4*d):=by
 have h1:=h.do_ k
 exact⟨h1.inv,h1.win,Nat.le_trans h1.tasks (by omega),Nat.le_trans h1.mass (by omega)⟩
theorem doS_grow {p:Prog}{s:Sys}(h:SInv p s)(k:Int):((doS p s k).getD s).tasks.length≤s.tasks.length+2:=by
 unfold doS
 by_cases hc:(inR k 0 ((s.tasks.length:Int)-1) && readyS s k.toNat)=true
 ·rw [if_pos hc]
  simp only [Bool.and_eq_true,inR,decide_eq_true_eq] at hc
  exact(stepS_grow h (by omega)).1
 ·rw [if_neg hc];exact Nat.le_add_right _ _
end Go.Proofs.YtjacjafmimgfcaaGreat
namespace Go.Proofs.YtjacjafmimgfcaaGreat
theorem progOk_form {p:Prog}(h:progOk p=true):formOk p=true:=by unfold progOk at h;simp only [Bool.and_eq_true] at h;exact h.1
theorem progOk_cells {p:Prog}(h:progOk p=true):numsOk p.cells=true:=by
 have:=progOk_form h
 unfold formOk at this
 simp only [Bool.and_eq_true] at this
 exact this.1.2
theorem newSys_ok {p:Prog}(hok:progOk p=true):sysOk p ⟨p.cells.map fun n=>⟨n,0,-1⟩,[newTask 0 (-1)],0,[]⟩=true:=by
 have hl:=formOk_len (progOk_form hok)
 have ht:∀ k:Nat,k<1→(⟨p.cells.map fun n=>⟨n,0,-1⟩,[newTask 0 (-1)],0,[]⟩:Sys).t k=newTask 0 (-1):=fun k hk=>by
  obtain rfl:k=0:=by omega
  rfl
 have hc:∀ i:Nat,(h:i<p.cells.length)→(⟨p.cells.map fun n=>⟨n,0,-1⟩,[newTask 0 (-1)],0,[]⟩:Sys).c i=⟨p.cells[i],0,-1⟩:=fun i hi=>by
  unfold Sys.c
  simp [hi]
 refine sysOk_iff.2 ⟨⟨hok,by simp,⟨by simp,by simp⟩,by simp,fun k hk=>?_,rfl,fun k h1 h2=>?_,fun i hi=>?_,fun i hi k hk=>?_,fun i hi=>?_⟩,⟨fun k h1 h2=>?_,fun k hk h=>?_⟩,by simp⟩
 ·simp at hk
  subst hk
  rw [ht 0 (by omega)]
  refine⟨⟨by decide,by show (0:Int)<_;omega⟩,⟨by decide,by show (0:Int)≤_;omega⟩,by decide,by decide,fun e=>absurd rfl e,by decide,by decide,rfl,rfl,fun _=>⟨rfl,rfl,rfl,by decide,by show (0:Int)≤0+1;decide⟩,fun e=>?_,fun e=>?_,fun e=>?_,fun e=>?_,fun e=>?_,⟨by decide,by show (0:Int)≤0;decide⟩,⟨by decide,by show (0:Int)≤0;decide⟩,fun e=>?_,fun e=>?_⟩
  all_goals exact absurd e (by decide)
 ·simp at h2;omega
 ·simp at hi
  rw [hc i hi]
  have:=numsOk_get (progOk_cells hok) i hi
  exact⟨this.1,this.2,by simp,by simp,by simp,by simp⟩
 ·simp at hi hk
  subst hk
  rw [hc i hi,ht 0 (by omega)]
  constructor
  ·rintro ⟨x,hx,_⟩;simp [mustHold,newTask] at hx
  ·intro e;simp at e
 ·simp at hi
 ·simp at h2;omega
 ·simp at hk
  subst hk
  rw [ht 0 (by omega)] at h
  exact absurd h (by decide)
theorem newSys_run {p:Prog}(hok:progOk p=true):RunOk p ⟨p.cells.map fun n=>⟨n,0,-1⟩,[newTask 0 (-1)],0,[]⟩ 1 1:=by
 obtain⟨h1,h2,h3⟩:=sysOk_iff.1 (newSys_ok hok)
 have:=liveN_le (⟨p.cells.map fun n=>⟨n,0,-1⟩,[newTask 0 (-1)],0,[]⟩:Sys)
 exact⟨h1,h2,by simp,by unfold mass;simp at this ⊢;exact this⟩
end Go.Proofs.YtjacjafmimgfcaaGreat
namespace Go.Proofs.YtjacjafmimgfcaaGreat
theorem round_ok {p:Prog}(m:Nat):∀ (n:Nat)(s:Sys)(i left:Nat)(b:Bool),left≤m→∀ {a q:Nat},RunOk p s (a+2*(m-left)) (q+4*(m-left))→(roundS p n s i left b).2.1≤left∧RunOk p (roundS p n s i left b).1 (a+2*(m-(roundS p n s i left b).2.1)) (q+4*(m-(roundS p n s i left b).2.1)):=by
 intro n
 induction n with
 | zero=>intro s i left b hl a q h;exact⟨Nat.le_refl _,h⟩
 | succ n ih =>
  intro s i left b hl a q h
  unfold roundS
  split
  ·rename_i hc
   cases hd:doS p s i with
   | none=>exact ih s (i+1) left b hl h
   | some s' =>
    have h1:=h.do_ i
    rw [hd] at h1
    have h2:RunOk p s' (a+2*(m-(left-1))) (q+4*(m-(left-1))):=⟨h1.inv,h1.win,Nat.le_trans h1.tasks (by omega),Nat.le_trans h1.mass (by omega)⟩
    have h3:=ih s' (i+1) (left-1) true (by omega) h2
    exact⟨by dsimp only;omega,h3.2⟩
  ·exact⟨Nat.le_refl _,h⟩
theorem rest_ok {p:Prog}(m:Nat):∀ (n:Nat)(s:Sys)(left:Nat),left≤m→∀ {a q:Nat},RunOk p s (a+2*(m-left)) (q+4*(m-left))→RunOk p (restS p n s left) (a+2*m) (q+4*m):=by
 intro n
 induction n with
 | zero=>intro s left hl a q h;exact⟨h.inv,h.win,Nat.le_trans h.tasks (by omega),Nat.le_trans h.mass (by omega)⟩
 | succ n ih =>
  intro s left hl a q h
  unfold restS
  split
  ·have h1:=round_ok m (s.tasks.length+3*left) s 0 left false hl h
   dsimp only
   split
   ·exact ih _ _ (by omega) h1.2
   ·exact⟨h1.2.inv,h1.2.win,Nat.le_trans h1.2.tasks (by omega),Nat.le_trans h1.2.mass (by omega)⟩
  ·exact⟨h.inv,h.win,Nat.le_trans h.tasks (by omega),Nat.le_trans h.mass (by omega)⟩
def LogFew (l:List Entry):Prop:=l.length≤10000∧∀ e ∈ l,e.reads.length≤1000000∧e.puts.length≤1000000∧∀ x ∈ e.puts,0≤x.num∧x.num≤99
theorem RunOk.few {p:Prog}{s:Sys}{n q:Nat}(h:RunOk p s n q)(hq:q≤10000):LogFew s.log:=by
 refine⟨Nat.le_trans h.log hq,fun e he=>?_⟩
 obtain⟨i,hi,rfl⟩:=List.mem_iff_getElem.1 he
 have q:=h.inv.log i hi
 have hc:=cells_few h.inv
 have h1:=list_few q.reads
 have h2:=list_few q.puts
 exact⟨by omega,by omega,fun x hx=>by have:=putsOk_mem q.puts hx;omega⟩
theorem LogFew.isI {l:List Entry}(h:LogFew l):∀ e ∈ l,∀ x ∈ e.puts,isI x.num:=fun e he x hx=>by have:=(h.2 e he).2.2 x hx;unfold Go.Proofs.YtjacjafmimgfcaaGreat.isI;omega
end Go.Proofs.YtjacjafmimgfcaaGreat
