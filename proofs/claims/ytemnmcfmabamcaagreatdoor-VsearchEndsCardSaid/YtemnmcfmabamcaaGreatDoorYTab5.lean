import Derived.Test.YtemnmcfmabamcaaGreatDoorYTab4
set_option linter.unusedSimpArgs false
set_option linter.unusedVariables false
set_option maxRecDepth 100000
namespace Go.Proofs.YtemnmcfmabamcaaGreatDoor
open Go Go.RowKit Go.Shelf
def BAt (w:World)(g:Nat)(l:List Bool):Prop:=w.heap[g]? =some (.cells (l.map Value.bool).toArray 4 (0,0))
theorem BAt.lt{w:World}{g:Nat}{l:List Bool}(h:BAt w g l):g<w.heap.size:=(Zrv h).1
theorem BAt.slB{w:World}{g c:Nat}{l:List Bool}(h:BAt w g l):SlB w (.slice (some ⟨g,0,none⟩) l.length c) l :=
 Zm3 h fun j hj=>by simp[hj]
theorem BAt.tabAt{w:World}{g c:Nat}{l:List Bool}(h:BAt w g l):TabAt w (.slice (some ⟨g,0,none⟩) l.length c) l :=
 ⟨g,c,_,rfl,h,fun j hj=>by simp[hj]⟩
theorem BAt.cell{w:World}{g:Nat}{l:List Bool}(h:BAt w g l){j:Nat}(hj:j<l.length):w.cell? ⟨g,j,none⟩=some (.bool l[j])∧w.frozen? ⟨g,j,none⟩=false:=by
 unfold BAt at h;simp[World.cell?,World.frozen?,h,hj]
theorem BAt.set{w:World}{g:Nat}{l:List Bool}(h:BAt w g l)(j:Nat)(b:Bool):BAt (w.setCell ⟨g,j,none⟩ (.bool b)) g (l.set j b):=by
 have:=Zaj h j (.bool b);unfold BAt;rw[this];simp[List.map_set]
theorem BAt.new(w:World)(N:Nat):BAt (w.alloc (.cells (madeCells #[.bool false] N) 4)) w.heap.size (List.replicate N false):=by
 unfold BAt;rw[Zrz]
 congr 2
 refine Array.ext (by simp[madeCells]) fun i h1 h2=>?_
 simp[madeCells,Nat.mod_one]
def Zfo (N:Nat)(g:Nat→Bool)(k:Nat):List Bool:=ZcV N fun i=>decide (i<k) && g i
theorem Zfp(N:Nat)(g:Nat→Bool)(k:Nat):(Zfo N g k).length=N:=Za0 _ _
theorem ZhN(N:Nat)(g:Nat→Bool)(k i:Nat)(h:i<(Zfo N g k).length):(Zfo N g k)[i]=(decide (i<k) && g i):=Zeb _ _ _ h
theorem Zku(N:Nat)(g:Nat→Bool):Zfo N g 0=List.replicate N false:=by
 refine List.ext_getElem (by simp[Zfp]) fun i h1 h2=>?_
 simp[Zfo,ZcV]
theorem ZlP(N:Nat)(g:Nat→Bool)(k:Nat):(Zfo N g k).set k (g k)=Zfo N g (k+1):=by
 refine List.ext_getElem (by simp[Zfp]) fun i h1 h2=>?_
 rw[List.getElem_set,ZhN,ZhN]
 split
 ·rename_i e;subst e;simp
 ·rename_i e
  congr 1
  rw[Bool.eq_iff_iff,decide_eq_true_iff,decide_eq_true_iff];omega
theorem ZlO(N:Nat)(g:Nat→Bool):Zfo N g N=ZcV N g:=Zbk fun i hi=>by rw[ZrI hi,Bool.true_and]
def ZaS (p:List Bool)(mk x m:Nat):List Bool:=ZcV p.length fun i=>p.getD i false || (decide (i<m) && decide (i &&& mk=x))
theorem ZbE(p:List Bool)(mk x m:Nat):(ZaS p mk x m).length=p.length:=Za0 _ _
theorem Zcy(p:List Bool)(mk x m i:Nat)(h:i<(ZaS p mk x m).length):(ZaS p mk x m)[i]=(p.getD i false || (decide (i<m) && decide (i &&& mk=x))):=Zeb _ _ _ h
theorem ZcN(p:List Bool)(mk x:Nat):ZaS p mk x 0=p:=by
 refine List.ext_getElem (ZbE _ _ _ _) fun i h1 h2=>?_
 rw[Zcy,ZgV h2];simp
theorem Zdt{p:List Bool}{mk x m:Nat}(h:m &&& mk=x):(ZaS p mk x m).set m true=ZaS p mk x (m+1):=by
 refine List.ext_getElem (by simp[ZbE]) fun i h1 h2=>?_
 rw[List.getElem_set,Zcy,Zcy]
 split
 ·rename_i e;subst e;simp[h]
 ·rename_i e
  congr 2
  rw[Bool.eq_iff_iff,decide_eq_true_iff,decide_eq_true_iff];omega
theorem ZcM{p:List Bool}{mk x m:Nat}(h:¬ m &&& mk=x):ZaS p mk x m=ZaS p mk x (m+1):=by
 refine List.ext_getElem (by simp[ZbE]) fun i h1 h2=>?_
 rw[Zcy,Zcy]
 by_cases e:i=m
 ·subst e;simp[h]
 ·congr 2
  rw[Bool.eq_iff_iff,decide_eq_true_iff,decide_eq_true_iff];omega
theorem Zds(p:List Bool)(mk x:Nat):ZaS p mk x p.length=L.primeSet p mk x:=Zbk fun i hi=>by rw[ZrI hi,Bool.true_and]
def Zfv (N:Nat)(bs:List (Nat × Nat)):List Value:=bs.flatMap fun p=>[.slice (some ⟨p.1,0,none⟩) N N,.slice (some ⟨p.2,0,none⟩) N N]
theorem ZdZ(N:Nat):∀(bs:List (Nat × Nat)) (k:Nat) (hk:k<bs.length),(Zfv N bs)[k*2]? =some (.slice (some ⟨bs[k].1,0,none⟩) N N)∧(Zfv N bs)[k*2+1]? =some (.slice (some ⟨bs[k].2,0,none⟩) N N)
 | [],k,hk=>by simp at hk
 | p :: r,0,_=>⟨rfl,rfl⟩
 | p :: r,k+1,hk=>by
   obtain⟨h1,h2⟩:=ZdZ N r k (by simp at hk;omega);have e:Zfv N (p :: r)=[.slice (some ⟨p.1,0,none⟩) N N,.slice (some ⟨p.2,0,none⟩) N N]++Zfv N r:=rfl;rw[e]
   constructor
   ·rw[List.getElem?_append_right (by simp;omega),show (k+1)*2 - [Value.slice (some ⟨p.1,0,none⟩) N N,.slice (some ⟨p.2,0,none⟩) N N].length=k*2 by simp;omega]
    simpa using h1
   ·rw[List.getElem?_append_right (by simp;omega),show (k+1)*2+1 - [Value.slice (some ⟨p.1,0,none⟩) N N,.slice (some ⟨p.2,0,none⟩) N N].length=k*2+1 by simp;omega]
    simpa using h2
def Zc4 (bs:List (Nat × Nat)):List Nat:=bs.flatMap fun p=>[p.1,p.2]
theorem ZdY{bs:List (Nat × Nat)}{k:Nat}(hk:k<bs.length):bs[k].1∈Zc4 bs∧bs[k].2∈Zc4 bs:=by
 unfold Zc4
 constructor
 ·exact List.mem_flatMap.2 ⟨bs[k],ZrM hk,by simp⟩
 ·exact List.mem_flatMap.2 ⟨bs[k],ZrM hk,by simp⟩
theorem Zfu:∀ {bs:List (Nat × Nat)},(Zc4 bs).Nodup→∀ {j k:Nat}(hj:j<bs.length) (hk:k<bs.length),bs[j].2≠bs[k].1∧(j≠k→bs[j].1≠bs[k].1)
 | [],_,j,k,hj,_=>by simp at hj
 | p :: r,hn,j,k,hj,hk=>by
   have e:Zc4 (p :: r)=p.1 :: p.2 :: Zc4 r:=rfl;rw[e,List.nodup_cons,List.nodup_cons]at hn;obtain⟨n1,n2,n3⟩:=hn;simp only[List.mem_cons,not_or]at n1
   match j,k,hj,hk with
   | 0,0,_,_=>exact⟨fun e=>n1.1 e.symm,fun h=>(h rfl).elim⟩
   | 0,k+1,_,hk =>
     have eF:k<r.length:=by simp at hk;omega
     exact⟨fun e=>n2 (by have:=(ZdY eF).1;rw[List.getElem_cons_succ]at e;rw[←e]at this;exact this),fun _ e=>n1.2 (by have:=(ZdY eF).1;rw[List.getElem_cons_succ]at e;rw[←e]at this;exact this)⟩
   | j+1,0,hj,_ =>
     have ke:j<r.length:=by simp at hj;omega
     exact⟨fun e=>n1.2 (by have:=(ZdY ke).2;rw[List.getElem_cons_succ]at e;rw[e]at this;exact this),fun _ e=>n1.2 (by have:=(ZdY ke).1;rw[List.getElem_cons_succ]at e;rw[e]at this;exact this)⟩
   | j+1,k+1,hj,hk =>
     have:=Zfu n3 (j:=j) (k:=k) (by simp at hj;omega) (by simp at hk;omega);exact⟨this.1,fun h=>this.2 (fun e=>h (by rw[e]))⟩
structure Za1 (w0:World) (N top:Nat) (els:List (List Bool × List Bool)) (v:Value) (wr:World):Prop where
 bel:Below w0.heap.size w0 wr
 bs:∃bs:List (Nat × Nat),bs.length=els.length∧wr.ownsRow w0.heap.size 106 2 v els.length (Zfv N bs)∧(Zc4 bs).Nodup ∧
  (∀x∈Zc4 bs,x<top)∧∀j (hj:j<els.length) (hb:j<bs.length),(BAt wr bs[j].1 els[j].1∧BAt wr bs[j].2 els[j].2)∧w0.heap.size≤bs[j].1∧w0.heap.size≤bs[j].2
 len:∀e∈els,e.1.length=N∧e.2.length=N
 sh:(els=[]∧v= .slice none 0 0)∨∃g cp,v= .slice (some ⟨g,0,none⟩) els.length cp
section
variable {w0:World}{N top n:Nat}{els:List (List Bool × List Bool)}{v:Value}{wr:World}
theorem Za1.next{w':World}(h:Za1 w0 N top els v wr)(hb:Below wr.heap.size wr w'):Za1 w0 N top els v w':=by
 obtain⟨bs,h1,h2,h3,h5,h4⟩:=h.bs;refine⟨h.bel.trans (hb.mono h.bel.size),⟨bs,h1,Zaa h2 (fun k hk=>hb.block k (Zap h2 hk).1),h3,h5,fun j hj hjb=>?_⟩,h.len,h.sh⟩;obtain⟨⟨g1,g2⟩,g3⟩:=h4 j hj hjb;exact⟨⟨(hb.block _ g1.lt).trans g1,(hb.block _ g2.lt).trans g2⟩,g3⟩
theorem Za1.shape(h:Za1 w0 N top els v wr):∃ba cp,v= .slice ba els.length cp∧(0<els.length→∃g,ba=some ⟨g,0,none⟩)∧(els.length=0→(ba=none∧cp=0)∨∃g,ba=some ⟨g,0,none⟩):=by
 rcases h.sh with ⟨rfl,rfl⟩|⟨g,cp,rfl⟩
 ·exact⟨none,0,rfl,fun hh=>by simp at hh,fun _=>.inl ⟨rfl,rfl⟩⟩
 ·exact⟨_,cp,rfl,fun _=>⟨g,rfl⟩,fun _=>.inr ⟨g,rfl⟩⟩
theorem Za1.cell{g cp k:Nat}(h:Za1 w0 N top els (.slice (some ⟨g,0,none⟩) n cp) wr)(hk:k<els.length):∃p q,(wr.cell? ⟨g,k*2,none⟩=some (.slice (some ⟨p,0,none⟩) N N)∧wr.cell? ⟨g,k*2+1,none⟩=some (.slice (some ⟨q,0,none⟩) N N))∧BAt wr p els[k].1∧BAt wr q els[k].2∧w0.heap.size≤p:=by
 obtain⟨bs,h1,h2,_,_,h4⟩:=h.bs;obtain⟨⟨g1,g2⟩,g3,_⟩:=h4 k hk (by omega);obtain⟨e1,e2⟩:=ZdZ N bs k (by omega);have c1:=h2.cells (g:=g) rfl (k*2) _ e1;have c2:=h2.cells (g:=g) rfl (k*2+1) _ e2;rw[Addr.add_lit,Nat.zero_add]at c1 c2;exact⟨_,_,⟨c1,c2⟩,g1,g2,g3⟩
theorem Za1.prime{g cp k p:Nat}(h:Za1 w0 N top els (.slice (some ⟨g,0,none⟩) n cp) wr)(hk:k<els.length)(hp:wr.cell? ⟨g,k*2,none⟩=some (.slice (some ⟨p,0,none⟩) N N))(i:Nat)(b:Bool) :
  Za1 w0 N top (els.set k (els[k].1.set i b,els[k].2)) (.slice (some ⟨g,0,none⟩) n cp) (wr.setCell ⟨p,i,none⟩ (.bool b)):=by
 obtain⟨bs,h1,h2,h3,h5,h4⟩:=h.bs;obtain⟨e1,_⟩:=ZdZ N bs k (by omega);have c1:=h2.cells (g:=g) rfl (k*2) _ e1;rw[Addr.add_lit,Nat.zero_add,hp]at c1;have iP:p=bs[k].1:=by simpa using c1
 subst iP;obtain⟨⟨gk1,_⟩,gk3,_⟩:=h4 k hk (by omega)
 have oe:g≠bs[k].1:=fun e=>by
  obtain⟨_,c',gE⟩:=Zap h2 (k:=g) rfl;rw[e,gk1]at gE;simp at gE
 refine⟨h.bel.setCell (show w0.heap.size≤bs[k].1 from gk3) _,⟨bs,by simpa using h1,Zak (Zaa h2 (fun j hj=>by
   have:j=g:=(Option.some.inj hj).symm;subst this;exact Below.heap_setCell _ _ _ _ (by simpa using oe))) (by simp) rfl,h3,h5,fun j hj hjb=>?_⟩,fun e he=>?_,.inr ⟨g,cp,by
   rcases h.sh with ⟨e1,_⟩|⟨_,_,e1⟩
   ·rw[e1]at hk;simp at hk
   ·cases e1;simp⟩⟩
 ·have ke:j<els.length:=by simpa using hj
  obtain⟨⟨g1,g2⟩,g3⟩:=h4 j ke hjb;have eT:=Zfu h3 (j:=j) (k:=k) hjb (by omega);have vj:BAt (wr.setCell ⟨bs[k].1,i,none⟩ (.bool b)) bs[j].2 els[j].2:=(Below.heap_setCell _ _ _ _ (by simpa using eT.1)).trans g2;refine⟨⟨?_,?_⟩,g3⟩
  ·by_cases e:j=k
   ·subst e
    rw[List.getElem_set_self];exact g1.set i b
   ·rw[List.getElem_set_ne (fun h=>e h.symm)]
    exact(Below.heap_setCell _ _ _ _ (by simpa using eT.2 e)).trans g1
  ·by_cases e:j=k
   ·subst e
    rw[List.getElem_set_self];exact vj
   ·rw[List.getElem_set_ne (fun h=>e h.symm)]
    exact vj
 ·rcases List.mem_or_eq_of_mem_set he with h'|rfl
  ·exact h.len e h'
  ·have:=h.len _ (ZrM hk)
   exact⟨by simpa using this.1,this.2⟩
theorem Za1.push{w2:World}{p q g cp top':Nat}{P Q:List Bool}(h:Za1 w0 N top els v wr)(hP:BAt wr p P)(hQ:BAt wr q Q)(ja:P.length=N)(xe:Q.length=N)(kq:w0.heap.size≤p)(qB:w0.heap.size≤q)
  (jN:p≠q) (htp:top≤p) (htq:top≤q) (cH:p<top') (bG:q<top')
  {bs:List (Nat × Nat)}(h1:bs.length=els.length) (h2:wr.ownsRow w0.heap.size 106 2 v els.length (Zfv N bs)) (h3:(Zc4 bs).Nodup) (h5:∀x∈Zc4 bs,x<top)
  (h4:∀j (hj:j<els.length) (hb:j<bs.length),(BAt wr bs[j].1 els[j].1∧BAt wr bs[j].2 els[j].2)∧w0.heap.size≤bs[j].1∧w0.heap.size≤bs[j].2)
  (ho:w2.ownsRow w0.heap.size 106 2 (.slice (some ⟨g,0,none⟩) (els.length+1) cp) (els.length+1) (Zfv N bs++[.slice (some ⟨p,0,none⟩) N N,.slice (some ⟨q,0,none⟩) N N]))
  (hg:wr.grownBy w2 v.ownBlock):Za1 w0 N top' (els++[(P,Q)]) (.slice (some ⟨g,0,none⟩) (els.length+1) cp) w2:=by
 have n1:p∉Zc4 bs:=fun hm=>by have:=h5 p hm;omega
 have n2:q∉Zc4 bs:=fun hm=>by have:=h5 q hm;omega
 have e:Zc4 (bs++[(p,q)])=Zc4 bs++[p,q]:=by simp[Zc4]
 have dV:∀ {k:Nat}{l:List Bool},BAt wr k l→BAt w2 k l:=fun {k l} hk=>(hg.block k hk.lt (fun e=>by
  obtain⟨_,c',gE⟩:=Zap h2 (k:=k) e.symm;rw[hk]at gE;simp at gE)).trans hk
 refine⟨Below.grown h.bel hg h.bel.size (fun k e=>Zay h2 e),⟨bs++[(p,q)],by simp[h1],Zak ho (by simp) (by simp[Zfv]),?_,fun x hx=>?_,fun j hj hb=>?_⟩,fun e he=>?_,.inr ⟨g,cp,by simp⟩⟩
 ·rw[e,List.nodup_append]
  refine⟨h3,by simp[jN],fun a ha b hb=>?_⟩;simp only[List.mem_cons,List.not_mem_nil,or_false]at hb;rcases hb with rfl|rfl
  ·exact fun e=>n1 (e ▸ ha)
  ·exact fun e=>n2 (e ▸ ha)
 ·rw[e]at hx
  rcases List.mem_append.1 hx with h'|h'
  ·have:=h5 x h';omega
  ·simp only[List.mem_cons,List.not_mem_nil,or_false]at h'
   rcases h' with rfl|rfl
   ·exact cH
   ·exact bG
 ·by_cases aD:j<els.length
  ·obtain⟨⟨g1,g2⟩,g3⟩:=h4 j aD (by omega)
   rw[List.getElem_append_left aD,List.getElem_append_left (show j<bs.length by omega)];exact⟨⟨dV g1,dV g2⟩,g3⟩
  ·obtain rfl:j=els.length:=by simp at hj;omega
   have e1:(els++[(P,Q)])[els.length]=(P,Q):=by simp
   have e2:(bs++[(p,q)])[els.length]'hb=(p,q):=by
    rw[List.getElem_append_right (by omega)];simp[h1]
   rw[e1,e2];exact⟨⟨dV hP,dV hQ⟩,kq,qB⟩
 ·rcases List.mem_append.1 he with h'|h'
  ·exact h.len e h'
  ·rw[List.mem_singleton.1 h'];exact⟨ja,xe⟩
theorem Za1.nil(w0 wr:World)(N top:Nat)(hb:Below w0.heap.size w0 wr):Za1 w0 N top [] (.slice none 0 0) wr :=
 ⟨hb,⟨[],rfl,World.ownsRow_nil _ _ _ _,by simp[Zc4],fun x hx=>by simp[Zc4]at hx,fun j hj=>by simp at hj⟩,(fun e he=>by cases he),.inl ⟨rfl,rfl⟩⟩
end
theorem ZnU{w:World}{N sz n:Nat}{e:TypeId}{v:Value}{xs:List Value}(h:w.ownsRow N e sz v n xs)(hn:0<n):∃g cs,v.ownBlock=some g∧N≤g∧w.heap[g]? =some (.cells cs e (0,0)):=by
 obtain⟨_,⟨rfl,e⟩|⟨g,cap,cur,rfl,hg,hh,_⟩⟩:=h
 ·omega
 ·exact⟨g,cur,rfl,hg,hh⟩
def EAt (w:World)(v:Value)(els:List (List Bool × List Bool)):Prop:=∃ba cp,v= .slice ba els.length cp∧∀j (hj:j<els.length),∃g cs p q,ba=some ⟨g,0,none⟩∧w.heap[g]? =some (.cells cs 106 (0,0))∧(cs[j*2]? =some p∧cs[j*2+1]? =some q)∧TabAt w p els[j].1∧TabAt w q els[j].2
theorem EAt.calm{w w':World}{v:Value}{els:List (List Bool × List Bool)}(h:EAt w v els)(hs:∀(g:Nat) (cs:Array Value) (e:TypeId),e≠40→w.heap[g]? =some (.cells cs e (0,0))→w'.heap[g]? =w.heap[g]?):EAt w' v els:=by
 obtain⟨ba,cp,rfl,h⟩:=h;refine⟨ba,cp,rfl,fun j hj=>?_⟩;obtain⟨g,cs,p,q,rfl,hg,c,s1,s2⟩:=h j hj;exact⟨g,cs,p,q,rfl,(hs g cs _ (by decide) hg).trans hg,c,s1.calm fun g cs hg=>hs g cs _ (by decide) hg,s2.calm fun g cs hg=>hs g cs _ (by decide) hg⟩
theorem EAt.below{w w':World}{v:Value}{els:List (List Bool × List Bool)}(h:EAt w v els)(hb:Below w.heap.size w w'):EAt w' v els :=
 h.calm fun g _ _ _ hg=>hb.block g (Zrv hg).1
theorem EAt.cell{w:World}{ba:Option Addr}{n cp:Nat}{els:List (List Bool × List Bool)}(h:EAt w (.slice ba n cp) els){j:Nat}(hj:j<els.length):∃g p q,ba=some ⟨g,0,none⟩∧(w.cell? ⟨g,j*2,none⟩=some p∧w.cell? ⟨g,j*2+1,none⟩=some q)∧TabAt w p els[j].1∧TabAt w q els[j].2:=by
 obtain⟨pd,fR,e,h⟩:=h;obtain⟨g,cs,p,q,e2,hg,⟨c1,c2⟩,s⟩:=h j hj
 cases e
 exact⟨g,p,q,e2,⟨by simp[World.cell?,hg,c1],by simp[World.cell?,hg,c2]⟩,s⟩
theorem Za1.reads{w0:World}{N top:Nat}{els:List (List Bool × List Bool)}{v:Value}{wr:World}(h:Za1 w0 N top els v wr):EAt wr v els:=by
 obtain⟨ba,cp,rfl,hs,_⟩:=h.shape;refine⟨ba,cp,rfl,fun j hj=>?_⟩;obtain⟨g,rfl⟩:=hs (by omega);obtain⟨bs,h1,h2,_,_,h4⟩:=h.bs;obtain⟨⟨b1,b2⟩,_⟩:=h4 j hj (by omega);obtain⟨g',cs,e,_,hg⟩:=ZnU h2 (by omega);obtain rfl:g=g':=by simpa [Value.ownBlock] using e
 obtain⟨e1,e2⟩:=ZdZ N bs j (by omega);have c1:=h2.cells (g:=g) rfl (j*2) _ e1;have c2:=h2.cells (g:=g) rfl (j*2+1) _ e2;rw[Addr.add_lit,Nat.zero_add]at c1 c2;have hl:=h.len _ (ZrM hj);have s1:=b1.tabAt (c:=N);have s2:=b2.tabAt (c:=N);rw[hl.1]at s1;rw[hl.2]at s2;exact⟨g,cs,_,_,rfl,hg,⟨by simpa [World.cell?,hg] using c1,by simpa [World.cell?,hg] using c2⟩,s1,s2⟩
theorem ZiC{f:List Bool}{mk x:Nat}{out:List (List Bool × List Bool)}(h:¬ x &&& mk=x):L.elStep f mk out x=out:=if_neg h
theorem ZhY{α:Type}{l:List α}{k:Nat}(hk:k<l.length)(g:α→α):l.modify k g=l.set k (g l[k]):=by
 refine List.ext_getElem (by simp) fun i h1 h2=>?_
 rw[List.getElem_modify,List.getElem_set]
 split
 ·rename_i e;subst e;rfl
 ·rfl
theorem Zkp{f:List Bool}{mk x k:Nat}{out:List (List Bool × List Bool)}(h:x &&& mk=x)(hk:k<out.length)(h1:out[k].2=L.subTab f mk x)(h2:∀j (hj:j<k),(out[j]'(by omega)).2≠L.subTab f mk x) :
  L.elStep f mk out x=out.set k (L.primeSet out[k].1 mk x,out[k].2):=by
 have hf:(out.findIdx fun e=>decide (e.2=L.subTab f mk x))=k:=L.findIdx_at hk (by simpa using h1) (fun j hj=>by simpa using h2 j hj);unfold L.elStep;rw[if_pos h];simp only[hf];rw[if_neg (by omega),ZhY hk]
theorem Zeo{f:List Bool}{mk x:Nat}{out:List (List Bool × List Bool)}(h:x &&& mk=x)(h2:∀j (hj:j<out.length),out[j].2≠L.subTab f mk x) :
  L.elStep f mk out x=(out++[(ZcV f.length fun _=>false,L.subTab f mk x)]).set out.length (L.primeSet (ZcV f.length fun _=>false) mk x,L.subTab f mk x):=by
 have hf:(out.findIdx fun e=>decide (e.2=L.subTab f mk x))=out.length:=L.findIdx_none (fun j hj=>by simpa using h2 j hj);unfold L.elStep;rw[if_pos h];simp only[hf];rw[if_pos trivial,ZhY (by simp)];simp
end Go.Proofs.YtemnmcfmabamcaaGreatDoor
