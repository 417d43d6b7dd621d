import Derived.Test.YtemnmcfmabamcaaGreatDoorYTab8
set_option linter.unusedSimpArgs false
set_option linter.unusedVariables false
set_option maxRecDepth 100000
set_option maxHeartbeats 8000000
section
namespace Go.Proofs.YtemnmcfmabamcaaGreatDoor
open Go Go.RowKit Go.Shelf
section
variable {N:Nat}{bx:List (Nat × Array Value)}{t:List VN}{sb k:Nat}{s:St}{va:Value}{na:List Value}{vf:Value}{nf:List Value}{ts:List (Value × List Bool)}{w:World}
theorem Zol{N sz n:Nat}{e:TypeId}{v:Value}{xs:List Value}(h:w.ownsRow N e sz v n xs)(hn:0<n):∃g cs,v.ownBlock=some g∧N≤g∧w.heap[g]? =some (.cells cs e (0,0)):=by
 obtain⟨_,⟨rfl,e⟩|⟨g,cap,cur,rfl,hg,hh,_⟩⟩:=h
 ·omega
 ·exact⟨g,cur,rfl,hg,hh⟩
end
theorem Zh0{w:World}{N n:Nat}{e:TypeId}{v:Value}{xs:List Value}(h:w.ownsRow N e 1 v n xs)(hn:0<n):∃g cap,v= .slice (some ⟨g,0,none⟩) n cap∧N≤g:=by
 obtain⟨_,⟨rfl,e⟩|⟨g,cap,cur,rfl,hg,_⟩⟩:=h
 ·omega
 ·exact⟨g,cap,rfl,hg⟩
theorem ZkR{w:World}{N n g cap:Nat}{e:TypeId}{xs:List Value}(h:w.ownsRow N e 1 (.slice (some ⟨g,0,none⟩) n cap) n xs){j:Nat}{u:Value}(hj:xs[j]? =some u):w.cell? ⟨g,j,none⟩=some u:=by
 have db:=(Zrw hj).1;rw[h.cellAt j (by have:=h.1;omega),hj]
theorem ZcD{w:World}{b k:Nat}(o:Nat)(v:Value)(h:k≠b):(w.setCell ⟨b,o,none⟩ v).heap[k]? =w.heap[k]?:=by
 simp only[World.setCell,Array.getElem?_modify];rw[if_neg (fun e=>h e.symm)]
theorem Zoz:(Tryz.prog.info? 40).map (fun i=>(i.zero,i.size,i.bytes))=some (some (.slice none 0 0),1,24):=by kernel_rfl
theorem Zhz.outs{l:List Bool}{w w':World}{e:Ending}(h:Zhz l w e w'):∃g c ln,e= .returned (.slice (some ⟨g,0,none⟩) ln c)∧TabAt w' (.slice (some ⟨g,0,none⟩) ln c) l∧Below w.heap.size w w':=by
 obtain⟨g,c,cs,rfl,h1,h2,h3,h4⟩:=h;exact⟨g,c,_,rfl,⟨g,c,cs,rfl,h2,h3⟩,h4⟩
theorem Zic(w:World)(c1 c2 c3:Array Value)(t1 t2 t3:TypeId){x:Nat}(hx:w.heap.size=x){w3:World}(h:w3=((w.alloc (.cells c1 t1)).alloc (.cells c2 t2)).alloc (.cells c3 t3)) :
  Below w.heap.size w w3∧w3.heap[x]? =some (.cells c1 t1 (0,0))∧w3.heap[x+1]? =some (.cells c2 t2 (0,0))∧w3.heap[x+1+1]? =some (.cells c3 t3 (0,0))∧w3.heap.size=x+3:=by
 subst hx h;have s1:(w.alloc (.cells c1 t1)).heap.size=w.heap.size+1:=by simp
 have s2:((w.alloc (.cells c1 t1)).alloc (.cells c2 t2)).heap.size=w.heap.size+2:=by simp
 have e1:=Zrz w (.cells c1 t1);have e2:=Zrz (w.alloc (.cells c1 t1)) (.cells c2 t2);have e3:=Zrz ((w.alloc (.cells c1 t1)).alloc (.cells c2 t2)) (.cells c3 t3);rw[s1]at e2;rw[s2]at e3;have b1:=(ZrE w.heap.size w).alloc (ZrQ _) (.cells c1 t1);have b2:=b1.alloc (by omega) (.cells c2 t2);have b3:=b2.alloc (by omega) (.cells c3 t3);refine⟨b3,?_,?_,e3,by simp⟩
 ·rw[Below.heap_alloc _ _ _ (by omega),Below.heap_alloc _ _ _ (by omega)];exact e1
 ·rw[Below.heap_alloc _ _ _ (by omega)];exact e2
def elT (s:St)(l:List Int)(n:Zac):List (List Bool × List Bool):=n.el.map fun p=>(L.tabO l (L.sem s.nodes p.1),L.tabO l (L.sem s.nodes p.2))
theorem Zm4{s:St}{l:List Int}(hi:L.Inv s)(bu:s.tree.length≤11)(iw:Zf1 s.tree=some l)(cK:L.SortedBel s.tree (s.tree.length - 1) l)(cE:l.length≤6){a:Nat}{n:Zac}(hn:s.nodes[a]? =some n){w:World}{b o c:Nat}{vf:Value}(ht:Zag w b o s.tree)(hf:SlB w vf (L.tabO l (L.sem s.nodes a))) :
  Calls Tryz.prog 51 #[.slice (some ⟨b,o,none⟩) s.tree.length c,vf] w fun e w'=>Zjr (elT s l n) w e w'∧n.el.length≤64:=by
 have ha:a<s.nodes.length:=(Zrw hn).1;have hd:=hi.tabDep cK ha;have eh:=L.tabO_is cK.sorted hd;have hC:Zfd s.tree l (L.sem s.nodes a) (L.tabO l (L.sem s.nodes a)):=⟨hi.tree,bu,cE,iw,cK,eh,hd⟩;unfold elT;have ez:∀W,EAt W (.slice none 0 0) []:=fun W=>⟨none,0,rfl,fun j hj=>by simp at hj⟩
 rcases hi.kind ha with rfl|rfl|⟨h2,m,hm,hk⟩
 ·have hz:Zqk s.tree (L.sem s.nodes 0) (-1):=.inl ⟨rfl,L.const_hangs (fun x=>hi.sem0 x)⟩
  have q1:=ZdP (c:=c) hC ht hf hz;have cN:n.el=[]:=by have:=hi.zero;rw[hn]at this;cases this;rfl
  rw[cN];obtain⟨bf,of,cf,rfl,_,_⟩:=hf;clear hC eh hd hi
  go_enter Tryz.func51,Tryz.ntmps51
  go_wp2_with fail;refine q1.mono ?_;rintro e w1 ⟨rfl,aF⟩;clear q1;go_wp2_with fail;go_ret;exact⟨⟨_,rfl,ez _,aF⟩,by simp⟩
 ·have hz:Zqk s.tree (L.sem s.nodes 1) (-1):=.inl ⟨rfl,L.const_hangs (fun x=>hi.sem1 x)⟩
  have q1:=ZdP (c:=c) hC ht hf hz;have cN:n.el=[]:=by have:=hi.one;rw[hn]at this;cases this;rfl
  rw[cN];obtain⟨bf,of,cf,rfl,_,_⟩:=hf;clear hC eh hd hi
  go_enter Tryz.func51,Tryz.ntmps51
  go_wp2_with fail;refine q1.mono ?_;rintro e w1 ⟨rfl,aF⟩;clear q1;go_wp2_with fail;go_ret;exact⟨⟨_,rfl,ez _,aF⟩,by simp⟩
 ·rw[hn]at hm
  cases hm
  obtain⟨P,hP,ja⟩:=hi.placeOf cK h2 hn;have hPt:=ja.lt;rcases hk with hk|hk
  ·obtain⟨u,y,e1,e2,e3,e4⟩:=hk.leaf
   have eu:u=P:=by omega
   subst eu;have q1:=ZdP (c:=c) hC ht hf (z:=u) (.inr ⟨u,rfl,ja⟩);rw[hk.el];have ak:=fun W (hb:Below w.heap.size w W)=>(ht.below hb).node hPt
   rw[(Zrw e2).2]at ak;obtain⟨yl,yr,yv⟩:=y;simp only[Zai,ZrK,ZrN]at e3;obtain⟨⟨rfl,rfl⟩,hyv⟩:=e3;simp only at ak;have p0:decide ((u:Int)<0)=false:=ZrH (by omega);have p1:(0:Int)≤u:=by omega
   have p2:(u:Int)<s.tree.length:=by omega
   obtain⟨bf,of,cf,rfl,_,_⟩:=hf;replace ak:=Zrr ak;replace e2:=Zrr e2;replace hk:=Zrr hk;replace hn:=Zrr hn;clear hC eh hd hi
   go_enter Tryz.func51,Tryz.ntmps51
   go_wp2_with fail;refine q1.mono ?_;rintro e w1 ⟨rfl,aF⟩;obtain⟨n0,n1,n2⟩:=ak.out w1 aF;clear q1;go_wp2_with fail;go_ret;exact⟨⟨_,rfl,ez _,aF⟩,by simp⟩
  ·obtain⟨P',y,L',R',e1,e2,e3,e4,e5,l8⟩:=hi.elFit cK hn hk eh
   have eu:P'=P:=by omega
   subst eu;refine(Zj6 (c:=c) hC ht hf ja e2 e3 e4).mono ?_;rintro e w1 ⟨mk,eZ,hE⟩;obtain⟨lw,kX⟩:=l8 mk eZ;have jK:=L.els_law kX;have kW:=Ze3 (L.tabO l (L.sem s.nodes a)) mk (2 ^ l.length);rw[jK,List.length_map]at kW;rw[jK]at hE;exact⟨hE,by have:=ZbW cE;omega⟩
def Zhp (w:World)(N:Nat)(l:List Int)(ns:List Zac)(A:List Nat)(v:Value):Prop :=
 ∃vs:List Value,w.ownsRow N 40 1 v A.length vs∧vs.length=A.length∧∀j (hj:j<A.length),∃u,vs[j]? =some u∧TabAt w u (L.tabO l (L.sem ns A[j]))
section
variable {w:World}{N:Nat}{l:List Int}{ns:List Zac}{A:List Nat}{v:Value}
theorem Zhp.next{w':World}(h:Zhp w N l ns A v)(hb:Below w.heap.size w w'):Zhp w' N l ns A v:=by
 obtain⟨vs,h1,h2,h3⟩:=h;refine⟨vs,Zaa h1 (fun _ hg=>hb.block _ (Zap h1 hg).1),h2,fun j hj=>?_⟩;obtain⟨u,e,hu⟩:=h3 j hj;exact⟨u,e,hu.below hb⟩
theorem Zhp.cell{g cp n:Nat}(h:Zhp w N l ns A (.slice (some ⟨g,0,none⟩) n cp)){j:Nat}(hj:j<A.length):∃u,w.cell? ⟨g,j,none⟩=some u∧TabAt w u (L.tabO l (L.sem ns A[j])):=by
 obtain⟨vs,h1,h2,h3⟩:=h;obtain⟨u,e,hu⟩:=h3 j hj;obtain⟨g',fR,e',_⟩:=Zh0 h1 (by omega)
 cases e'
 exact⟨u,ZkR h1 e,hu⟩
theorem Zhp.push{w':World}{v' u:Value}{vs:List Value}{x:Nat}(hN:∀j (hj:j<A.length),∃u,vs[j]? =some u∧TabAt w u (L.tabO l (L.sem ns A[j])))(hl:vs.length=A.length)(h:w.ownsRow N 40 1 v A.length vs)(h0:0<A.length)(hu:TabAt w u (L.tabO l (L.sem ns x)))
  (hg:w.grownBy w' v.ownBlock) (ho:w'.ownsRow N 40 1 v' (A.length+1) (vs++[u])):Zhp w' N l ns (A++[x]) v'∧∀(g:Nat) (cs:Array Value) (e:TypeId),e≠40→w.heap[g]? =some (.cells cs e (0,0))→w'.heap[g]? =w.heap[g]?:=by
 obtain⟨g,cs,e1,e2,e3⟩:=Zol h h0;rw[e1]at hg
 have hs:∀(k:Nat) (cs:Array Value) (e:TypeId),e≠40→w.heap[k]? =some (.cells cs e (0,0))→w'.heap[k]? =w.heap[k]?:=fun k cs e he hk =>
  hg.block k (Zrv hk).1 (fun e'=>by
   have:=Option.some.inj e';subst this;rw[e3]at hk;simp at hk;exact he hk.2.symm)
 refine⟨⟨vs++[u],by rw[ZrB];exact ho,by simp[hl],fun j hj=>?_⟩,hs⟩
 by_cases db:j<A.length
 ·obtain⟨u',e,pW⟩:=hN j db
  refine⟨u',by rw[List.getElem?_append_left (by omega)];exact e,?_⟩;rw[List.getElem_append_left db];exact pW.calm fun g cs hg=>hs g cs _ (by decide) hg
 ·have:j=A.length:=by simp at hj;omega
  subst this;refine⟨u,by rw[←hl];simp,?_⟩;rw[List.getElem_append_right (ZrQ _)];simp only[Nat.sub_self,List.getElem_cons_zero];exact hu.calm fun g cs hg=>hs g cs _ (by decide) hg
end
theorem Zem{N:Nat}{w wr w':World}(h:Below N w wr)(hN:N=w.heap.size)(hb:Below wr.heap.size wr w'):Below N w w':=h.trans (hb.mono (by have:=h.size;omega))
theorem Zpz(k:Nat):(k:Int).tdiv 2=((k / 2:Nat):Int):=by rw[Int.tdiv_eq_ediv_of_nonneg (by omega)];omega
theorem ZqF(k:Nat):((k:Int).tmod 2 ==1)=decide (k % 2=1):=by
 rw[Int.tmod_eq_emod_of_nonneg (by omega),Bool.eq_iff_iff,decide_eq_true_iff,beq_iff_eq];omega
theorem ZpS(k:Nat):((k:Int) % 2 ==1)=decide (k % 2=1):=by rw[Bool.eq_iff_iff,decide_eq_true_iff,beq_iff_eq];omega
theorem Zm6{s:St}{l:List Int}(hi:L.Inv s)(bu:s.tree.length≤11)(iw:Zf1 s.tree=some l)(cK:L.SortedBel s.tree (s.tree.length - 1) l)(cE:l.length≤6)(fw:s.nodes.length≤1048576){a:Nat}(ha:a<s.nodes.length){o:List Nat}(hond:o.Nodup)(zW:∀b,b∈o↔L.Reach s.nodes a b){w:World}{b off c:Nat}{vf:Value}(ht:Zag w b off s.tree)(hf:TabAt w vf (L.tabO l (L.sem s.nodes a))) :
  Calls Tryz.prog 22 #[.slice (some ⟨b,off,none⟩) s.tree.length c,vf] w fun e w'=>e= .returned (.int .i64 (Zbw s.nodes o))∧Below w.heap.size w w':=by
 obtain⟨N,hN⟩:∃N,N=w.heap.size:=⟨_,rfl⟩;have jZ:Hid (∀b,b<s.nodes.length→(L.tabO l (L.sem s.nodes b)).length=2 ^ l.length):=Zrr fun b hb=>(L.tabO_is cK.sorted (hi.tabDep cK hb)).len
 have hM64:=ZbW cE;have pK:Hid (∀x,L.Reach s.nodes a x→x<s.nodes.length):=Zrr fun x hx=>by have:=hx.le hi.kids;omega
 have qE:Hid (∀(x:Nat) (n:Zac),s.nodes[x]? =some n→∀(W:World) (v:Value),Below N w W→SlB W v (L.tabO l (L.sem s.nodes x))→Calls Tryz.prog 51 #[.slice (some ⟨b,off,none⟩) s.tree.length c,v] W fun e w'=>Zjr (elT s l n) W e w'∧n.el.length≤64) :=
  Zrr fun x n hn W v hb hv=>Zm4 hi bu iw cK cE hn (ht.below (by rw[←hN];exact hb)) hv
 have h0:Hid (Zhp (w.alloc (.cells #[vf] 40)) N l s.nodes [a] (.slice (some ⟨w.heap.size,0,none⟩) 1 1)∧Below N w (w.alloc (.cells #[vf] 40))):=Zrr ⟨⟨[vf],World.ownsRow_lit w #[vf] 1 (by omega) (by unfold maxLen;omega) rfl,rfl,fun j hj=>by
  obtain rfl:j=0:=by simpa using hj
  exact⟨vf,rfl,hf.below ((ZrE _ _).alloc (ZrQ _) _)⟩⟩,by rw[hN];exact(ZrE _ _).alloc (ZrQ _) _⟩
 have n8:=Zrr (L.Bfs.init s.nodes a);obtain⟨gf,cf,lf,rfl⟩:∃g c n,vf= .slice (some ⟨g,0,none⟩) n c:=by obtain⟨g,c,_,e,_⟩:=hf;exact⟨g,c,_,e⟩
 obtain⟨j0,rC,hzj0,hzj1,hzj2⟩:=info_parts Zoz;replace hi:=Zrr hi;replace cK:=Zrr cK;replace iw:=Zrr iw;replace hN:=Zrr hN;clear ht hf
 go_enter Tryz.func22,Tryz.ntmps22
 go_wp2_with fail
 go_loopw [5,6,7] (fun v zv iv wr=>∃(A:List Nat) (i sz:Nat),i≤A.length∧sz≤64*i∧iv= .int .i64 (i:Nat)∧zv= .int .i64 (sz:Nat)∧Hid (L.Bfs s.nodes a A i sz)∧Hid (Zhp wr N l s.nodes A v∧Below N w wr)) (fun _ _ iv _=>s.nodes.length - (intOf iv).toNat)
 case atStart=>exact⟨[a],0,0,by simp,by simp,rfl,rfl,n8,h0⟩
 case round =>
  clear h0 n8;obtain⟨A,i,sz,hile,ac,rfl,rfl,hB,hR⟩:=hrel;have hAn:A.length≤s.nodes.length:=by have:=hB.out.le hi.out.kids;omega
  obtain⟨g1,cp1,e1⟩:∃g cp,u5= .slice (some ⟨g,0,none⟩) A.length cp:=by
   obtain⟨⟨vs,h1,_⟩,_⟩:=hR.out;obtain⟨g,cp,e,_⟩:=Zh0 h1 (by have:=List.length_pos_of_mem hB.out.has;omega);exact⟨g,cp,e⟩
  subst e1;obtain⟨m1,ie⟩:∃m,m=A.length:=⟨_,rfl⟩;rw[←ie]at hile hAn hR ⊢;replace ie:=Zrr ie
  by_cases aD:i<m1
  ·have dlt:decide ((i:Int)<(m1:Int))=true:=ZrI (by omega)
   have jo:i<A.length:=by have:=ie.out;omega
   have lK:=pK.out _ (hB.out.reach _ (ZrM jo));obtain⟨n,hn⟩:∃n,s.nodes[A[i]]? =some n:=⟨_,Zry lK⟩;obtain⟨u,cu,hu⟩:=hR.out.1.cell jo;have q1:=qE.out _ n hn wr u hR.out.2 hu.slB;obtain⟨gu,cu',lu,rfl⟩:∃g c n,u= .slice (some ⟨g,0,none⟩) n c:=by obtain⟨g,c,_,e,_⟩:=hu;exact⟨g,c,_,e⟩
   have hBn:=Zrr (hB.out.next jo hn)
   have xJ:Hid (∀k,∀b∈L.addW A n.el k,b<s.nodes.length):=Zrr fun k b hb=>by
    rcases L.addW_mem _ _ _ hb with hb|⟨p,hp,h⟩
    ·exact pK.out _ (hB.out.reach _ hb)
    ·obtain⟨k1,k2⟩:=hi.out.kids _ _ hn _ hp
     rcases h with rfl|rfl <;> omega
   have hAnd:Hid (∀k,(L.addW A n.el k).Nodup):=Zrr fun k=>L.addW_nodup hB.out.nd n.el k
   have i0:(0:Int)≤i:=by omega
   have i1:(i:Int)<m1:=by omega
   clear hu;replace hn:=Zrr hn;replace lK:=Zrr lK;go_wp2_with fail;refine q1.mono ?_;rintro e w1 ⟨⟨v2,rfl,hE,aF⟩,hn64⟩;obtain⟨En,dZ⟩:∃En,En=n.el.length:=⟨_,rfl⟩;obtain⟨ba,cp,rfl⟩:∃ba cp,v2= .slice ba En cp:=by obtain⟨ba,cp,e,_⟩:=hE;exact⟨ba,cp,by rw[e,dZ];simp[elT]⟩
   rw[←dZ]at hn64;have h1:Hid (Zhp w1 N l s.nodes (L.addW A n.el 0) (.slice (some ⟨g1,0,none⟩) m1 cp1)∧EAt w1 (.slice ba En cp) (elT s l n)∧Below N w w1):=Zrr ⟨hR.out.1.next aF,hE,Zem hR.out.2 hN.out aF⟩;replace dZ:=Zrr dZ;clear q1 hR hE aF cu hB;go_wp2_with fail
   go_loopw [5,9] (fun v kv wr=>∃k:Nat,k≤2*En∧kv= .int .i64 (k:Nat)∧Hid (Zhp wr N l s.nodes (L.addW A n.el k) v∧EAt wr (.slice ba En cp) (elT s l n)∧Below N w wr)) (fun _ kv _=>2*En - (intOf kv).toNat)
   case atStart=>exact⟨0,Nat.zero_le _,rfl,h1⟩
   case round =>
    clear h1;obtain⟨k,hk,rfl,hI⟩:=hrel
    by_cases dq:k<2*En
    ·have dk:decide ((k:Int)<2*(En:Int))=true:=ZrI (by omega)
     obtain⟨A2,nZ⟩:∃A2,A2=L.addW A n.el k:=⟨_,rfl⟩;have dF:=xJ.out k;have rL:=hAnd.out k;have hI':=hI.out;rw[←nZ]at dF rL hI';have hA2n:A2.length≤s.nodes.length:=L.nodup_lt _ _ rL dF;obtain⟨m2,eY⟩:∃m,m=A2.length:=⟨_,rfl⟩
     have hpos2:0<m2:=by
      obtain⟨r,hr⟩:=L.addW_pre A n.el k;rw[eY,nZ,hr,ZrB];have:=ie.out;omega
     obtain⟨g2,cp2,rfl⟩:∃g cp,u5= .slice (some ⟨g,0,none⟩) m2 cp:=by
      obtain⟨⟨vs,h1,_⟩,_⟩:=hI';obtain⟨g,cp,e,_⟩:=Zh0 h1 (by omega);exact⟨g,cp,by rw[eY];exact e⟩
     obtain⟨gc,qN,gP⟩:=hI';have u9:k / 2<n.el.length:=by have:=dZ.out;omega
     have j7:=L.flat2_get n.el k u9;obtain⟨ge,p,q,rfl,⟨c1,c2⟩,tp,tq⟩:=qN.cell (j:=k / 2) (by simp[elT];exact u9);simp only[elT,List.getElem_map]at tp tq;have j4:=hi.out.kids _ _ hn.out _ (ZrM u9);have hhi:=Zpz k;have hod:=ZqF k;have zP:=ZpS k;have h2i:(0:Int)≤((k / 2:Nat):Int):=by omega
     have h2l:((k / 2:Nat):Int)<En:=by omega
     have hm2n:m2≤s.nodes.length:=by omega
     replace nZ:=Zrr nZ.symm;replace gc:=Zrr gc;replace gP:=Zrr gP;replace dF:=Zrr dF;replace rL:=Zrr rL;replace eY:=Zrr eY;generalize jN:n.el[k / 2]=pq at *;obtain⟨p0,q0⟩:=pq;simp only at tp tq j7 j4;replace jN:=Zrr jN;obtain⟨kh,hkh⟩:∃kh,kh=k / 2:=⟨_,rfl⟩;rw[←hkh]at hhi h2i h2l c1 c2;replace hkh:=Zrr hkh;have hxr':=lK.out
     by_cases hodd:k % 2=1
     ·rw[if_pos hodd]at j7
      rw[ZrI hodd]at hod zP;have ri:=tq;have pZ:Hid (q0<s.nodes.length):=Zrr (by omega);obtain⟨gp,cpp,lp,rfl⟩:∃g c n,p= .slice (some ⟨g,0,none⟩) n c:=by obtain⟨g,c,_,e,_⟩:=tp;exact⟨g,c,_,e⟩
      clear tp tq;replace hodd:=Zrr hodd;replace j7:=Zrr j7;replace qN:=Zrr qN;clear hI j4
      obtain⟨gx,cx,lx,rfl,mZ,mW⟩:∃gx cx lx,q= .slice (some ⟨gx,0,none⟩) lx cx∧lx=(L.tabO l (L.sem s.nodes q0)).length∧Hid (TabAt wr (.slice (some ⟨gx,0,none⟩) lx cx) (L.tabO l (L.sem s.nodes q0))):=by
       have vJ:=ri;obtain⟨g0,c0,cs0,e0,_⟩:=vJ;exact⟨g0,c0,_,e0,rfl,Zrr (by rw[e0]at ri;exact ri)⟩
      clear ri;replace mZ:=Zrr mZ;obtain⟨w2,bS⟩:∃w2,w2=wr:=⟨wr,rfl⟩;have h3:Hid (Below wr.heap.size wr wr∧∀j (hj:j<A2.length),j<0→A2[j]≠q0):=Zrr ⟨ZrE _ _,fun j _ h=>by omega⟩;go_wp2_with fail;clear c1 c2;subst bS
      go_loopw [11] (fun jv wr=>∃j:Nat,j≤m2∧jv= .int .i64 (j:Nat)∧Hid (Below w2.heap.size w2 wr∧∀i (hi:i<A2.length),i<j→A2[i]≠q0)) (fun jv _=>m2 - (intOf jv).toNat)
      case atStart=>exact⟨0,Nat.zero_le _,rfl,h3⟩
      case round =>
       clear h3;obtain⟨j,hj,rfl,hJ⟩:=hrel
       by_cases db:j<m2
       ·have dj:decide ((j:Int)<(m2:Int))=true:=ZrI (by omega)
        have i8:j<A2.length:=by have:=eY.out;omega
        obtain⟨u,cu,hu⟩:=(gc.out.next hJ.out.1).cell i8;have qs:=ZfZ hu.slB (mW.out.below hJ.out.1).slB (by rw[jZ.out _ (dF.out _ (ZrM i8)),jZ.out _ pZ.out]) (by rw[jZ.out _ (dF.out _ (ZrM i8))];omega);obtain⟨gu,cu',lu,rfl⟩:∃g c n,u= .slice (some ⟨g,0,none⟩) n c:=by obtain⟨g,c,_,e,_⟩:=hu;exact⟨g,c,_,e⟩
        have jj0:(0:Int)≤j:=by omega
        have jj1:(j:Int)<m2:=by omega
        clear hu
        by_cases ap:A2[j]=q0
        ·have dB:L.tabO l (L.sem s.nodes A2[j])=L.tabO l (L.sem s.nodes q0):=by rw[ap]
         rw[ZrI dB]at qs;have bC:Hid (L.withL A2 q0=A2):=Zrr (by unfold L.withL;rw[if_pos (by rw[←ap];exact ZrM i8)]);replace ap:=Zrr ap;replace dB:=Zrr dB;go_wp2_with fail;refine qs.mono ?_;rintro e w6 ⟨rfl,bZ⟩;have dkk:((j:Int) ==(m2:Int))=false:=beq_eq_false_iff_ne.2 (by omega);have iK:=hJ.out.1.trans (bZ.mono hJ.out.1.size)
         have aA:Hid (Zhp w6 N l s.nodes (L.addW A n.el (k+1)) (.slice (some ⟨g2,0,none⟩) m2 cp2)∧EAt w6 (.slice (some ⟨ge,0,none⟩) En cp) (elT s l n)∧Below N w w6):=Zrr (by
          rw[L.addW_succ A n.el j7.out,nZ.out,bC.out];exact⟨gc.out.next iK,qN.out.below iK,Zem gP.out hN.out iK⟩)
         clear qs hJ bZ iK;go_wp2_with fail;go_roundw
         case rel=>exact⟨k+1,by omega,by go_num,aA⟩
         case measure=>simp[intOf];omega
        ·have dB:¬ L.tabO l (L.sem s.nodes A2[j])=L.tabO l (L.sem s.nodes q0):=fun e=>ap ((hi.out.tab_eq cK.out (dF.out _ (ZrM i8)) pZ.out).1 e)
         rw[ZrH dB]at qs;replace dB:=Zrr dB;go_wp2_with fail;refine qs.mono ?_;rintro e w6 ⟨rfl,bZ⟩
         have aA:Hid (Below w2.heap.size w2 w6∧∀i (hi:i<A2.length),i<j+1→A2[i]≠q0):=Zrr ⟨hJ.out.1.trans (bZ.mono hJ.out.1.size),fun i hi h=>by
          by_cases e:i=j
          ·subst e;exact ap
          ·exact hJ.out.2 i hi (by omega)⟩
         replace ap:=Zrr ap;clear qs hJ bZ;go_wp2_with fail;go_roundw
         case rel=>exact⟨j+1,by omega,by go_num,aA⟩
         case measure=>simp[intOf];omega
       ·have dj:decide ((j:Int)<(m2:Int))=false:=ZrH (by omega)
        obtain rfl:m2=j:=by omega
        have dkk:((m2:Int) ==(m2:Int))=true:=by simp
        have pE:Hid (L.withL A2 q0=A2++[q0]):=Zrr (by
         unfold L.withL
         rw[if_neg (fun h=>by
          obtain⟨i,hi,e⟩:=List.getElem_of_mem h;exact hJ.out.2 i hi (by have:=eY.out;omega) e)])
        have gk:=hJ.out.1;have fg:=(ZrE wr.heap.size wr).alloc (ZrQ _) (.cells #[.slice (some ⟨gx,0,none⟩) lx cx] 40);have iK:=gk.trans (fg.mono gk.size);obtain⟨vs,x1,x2,x3⟩:=gc.out.next iK;have ve:=Zak x1 eY.out.symm rfl;replace x1:=Zrr x1;replace x2:=Zrr x2;replace x3:=Zrr x3;have vI:=(mW.out.below iK);replace vI:=Zrr vI;have hE9:=Zrr (qN.out.below iK);have yM:=Zrr (Zem gP.out hN.out iK);have jt:N≤(wr.alloc (.cells #[.slice (some ⟨gx,0,none⟩) lx cx] 40)).heap.size:=by have:=yM.out.size;have:=hN.out;omega
        clear hJ gk iK
        go_wp2_with (at_builtin;(refine wpList_append_own _ rfl _ _ 107 rfl N 40 j0 (.slice none 0 0) 1 24 Tryz.underlying107 rC hzj0 hzj1 hzj2 rfl (by decide) _ _ _ rfl ve ⟨wr.heap.size,0,none⟩ 1 1 [.slice (some ⟨gx,0,none⟩) lx cx] (by rfl) rfl (Zao _ _ _ _ (by simp)) (by simp[Value.oneCell']) (by unfold maxLen;omega) (by omega) jt ?_;intro v10 jB e8 gR _;obtain⟨t6,p10,rfl,yg⟩:=Zh0 e8 (by omega);obtain⟨aP,aM⟩:=Zhp.push (ns:=s.nodes) (l:=l) x3.out x2.out x1.out (by rw[←eY.out];omega) vI.out gR (Zak e8 (by rw[eY.out]) rfl);have fe:Below N w jB:=Below.grown yM.out gR jt (fun k e=>Zay ve e);have aA:Hid (Zhp jB N l s.nodes (L.addW A n.el (k+1)) (.slice (some ⟨t6,0,none⟩) (m2+1) p10)∧EAt jB (.slice (some ⟨ge,0,none⟩) En cp) (elT s l n)∧Below N w jB):=Zrr (by rw[L.addW_succ A n.el j7.out,nZ.out,pE.out];exact⟨aP,hE9.out.calm aM,fe⟩)))
        clear aP aM fe e8 gR ve;go_wp2_with fail;go_roundw
        case rel=>exact⟨k+1,by omega,by go_num,aA⟩
        case measure=>simp[intOf];omega
     ·rw[if_neg hodd]at j7
      rw[ZrH hodd]at hod zP;have ri:=tp;have pZ:Hid (p0<s.nodes.length):=Zrr (by omega);clear tp tq;replace hodd:=Zrr hodd;replace j7:=Zrr j7;replace qN:=Zrr qN;clear hI j4
      obtain⟨gx,cx,lx,rfl,mZ,mW⟩:∃gx cx lx,p= .slice (some ⟨gx,0,none⟩) lx cx∧lx=(L.tabO l (L.sem s.nodes p0)).length∧Hid (TabAt wr (.slice (some ⟨gx,0,none⟩) lx cx) (L.tabO l (L.sem s.nodes p0))):=by
       have vJ:=ri;obtain⟨g0,c0,cs0,e0,_⟩:=vJ;exact⟨g0,c0,_,e0,rfl,Zrr (by rw[e0]at ri;exact ri)⟩
      clear ri;replace mZ:=Zrr mZ;obtain⟨w2,bS⟩:∃w2,w2=wr:=⟨wr,rfl⟩;have h3:Hid (Below wr.heap.size wr wr∧∀j (hj:j<A2.length),j<0→A2[j]≠p0):=Zrr ⟨ZrE _ _,fun j _ h=>by omega⟩;go_wp2_with fail;clear c1 c2;subst bS
      go_loopw [11] (fun jv wr=>∃j:Nat,j≤m2∧jv= .int .i64 (j:Nat)∧Hid (Below w2.heap.size w2 wr∧∀i (hi:i<A2.length),i<j→A2[i]≠p0)) (fun jv _=>m2 - (intOf jv).toNat)
      case atStart=>exact⟨0,Nat.zero_le _,rfl,h3⟩
      case round =>
       clear h3;obtain⟨j,hj,rfl,hJ⟩:=hrel
       by_cases db:j<m2
       ·have dj:decide ((j:Int)<(m2:Int))=true:=ZrI (by omega)
        have i8:j<A2.length:=by have:=eY.out;omega
        obtain⟨u,cu,hu⟩:=(gc.out.next hJ.out.1).cell i8;have qs:=ZfZ hu.slB (mW.out.below hJ.out.1).slB (by rw[jZ.out _ (dF.out _ (ZrM i8)),jZ.out _ pZ.out]) (by rw[jZ.out _ (dF.out _ (ZrM i8))];omega);obtain⟨gu,cu',lu,rfl⟩:∃g c n,u= .slice (some ⟨g,0,none⟩) n c:=by obtain⟨g,c,_,e,_⟩:=hu;exact⟨g,c,_,e⟩
        have jj0:(0:Int)≤j:=by omega
        have jj1:(j:Int)<m2:=by omega
        clear hu
        by_cases ap:A2[j]=p0
        ·have dB:L.tabO l (L.sem s.nodes A2[j])=L.tabO l (L.sem s.nodes p0):=by rw[ap]
         rw[ZrI dB]at qs;have bC:Hid (L.withL A2 p0=A2):=Zrr (by unfold L.withL;rw[if_pos (by rw[←ap];exact ZrM i8)]);replace ap:=Zrr ap;replace dB:=Zrr dB;go_wp2_with fail;refine qs.mono ?_;rintro e w6 ⟨rfl,bZ⟩;have dkk:((j:Int) ==(m2:Int))=false:=beq_eq_false_iff_ne.2 (by omega);have iK:=hJ.out.1.trans (bZ.mono hJ.out.1.size)
         have aA:Hid (Zhp w6 N l s.nodes (L.addW A n.el (k+1)) (.slice (some ⟨g2,0,none⟩) m2 cp2)∧EAt w6 (.slice (some ⟨ge,0,none⟩) En cp) (elT s l n)∧Below N w w6):=Zrr (by
          rw[L.addW_succ A n.el j7.out,nZ.out,bC.out];exact⟨gc.out.next iK,qN.out.below iK,Zem gP.out hN.out iK⟩)
         clear qs hJ bZ iK;go_wp2_with fail;go_roundw
         case rel=>exact⟨k+1,by omega,by go_num,aA⟩
         case measure=>simp[intOf];omega
        ·have dB:¬ L.tabO l (L.sem s.nodes A2[j])=L.tabO l (L.sem s.nodes p0):=fun e=>ap ((hi.out.tab_eq cK.out (dF.out _ (ZrM i8)) pZ.out).1 e)
         rw[ZrH dB]at qs;replace dB:=Zrr dB;go_wp2_with fail;refine qs.mono ?_;rintro e w6 ⟨rfl,bZ⟩
         have aA:Hid (Below w2.heap.size w2 w6∧∀i (hi:i<A2.length),i<j+1→A2[i]≠p0):=Zrr ⟨hJ.out.1.trans (bZ.mono hJ.out.1.size),fun i hi h=>by
          by_cases e:i=j
          ·subst e;exact ap
          ·exact hJ.out.2 i hi (by omega)⟩
         replace ap:=Zrr ap;clear qs hJ bZ;go_wp2_with fail;go_roundw
         case rel=>exact⟨j+1,by omega,by go_num,aA⟩
         case measure=>simp[intOf];omega
       ·have dj:decide ((j:Int)<(m2:Int))=false:=ZrH (by omega)
        obtain rfl:m2=j:=by omega
        have dkk:((m2:Int) ==(m2:Int))=true:=by simp
        have pE:Hid (L.withL A2 p0=A2++[p0]):=Zrr (by
         unfold L.withL
         rw[if_neg (fun h=>by
          obtain⟨i,hi,e⟩:=List.getElem_of_mem h;exact hJ.out.2 i hi (by have:=eY.out;omega) e)])
        have gk:=hJ.out.1;have fg:=(ZrE wr.heap.size wr).alloc (ZrQ _) (.cells #[.slice (some ⟨gx,0,none⟩) lx cx] 40);have iK:=gk.trans (fg.mono gk.size);obtain⟨vs,x1,x2,x3⟩:=gc.out.next iK;have ve:=Zak x1 eY.out.symm rfl;replace x1:=Zrr x1;replace x2:=Zrr x2;replace x3:=Zrr x3;have vI:=(mW.out.below iK);replace vI:=Zrr vI;have hE9:=Zrr (qN.out.below iK);have yM:=Zrr (Zem gP.out hN.out iK);have jt:N≤(wr.alloc (.cells #[.slice (some ⟨gx,0,none⟩) lx cx] 40)).heap.size:=by have:=yM.out.size;have:=hN.out;omega
        clear hJ gk iK
        go_wp2_with (at_builtin;(refine wpList_append_own _ rfl _ _ 107 rfl N 40 j0 (.slice none 0 0) 1 24 Tryz.underlying107 rC hzj0 hzj1 hzj2 rfl (by decide) _ _ _ rfl ve ⟨wr.heap.size,0,none⟩ 1 1 [.slice (some ⟨gx,0,none⟩) lx cx] (by rfl) rfl (Zao _ _ _ _ (by simp)) (by simp[Value.oneCell']) (by unfold maxLen;omega) (by omega) jt ?_;intro v10 jB e8 gR _;obtain⟨t6,p10,rfl,yg⟩:=Zh0 e8 (by omega);obtain⟨aP,aM⟩:=Zhp.push (ns:=s.nodes) (l:=l) x3.out x2.out x1.out (by rw[←eY.out];omega) vI.out gR (Zak e8 (by rw[eY.out]) rfl);have fe:Below N w jB:=Below.grown yM.out gR jt (fun k e=>Zay ve e);have aA:Hid (Zhp jB N l s.nodes (L.addW A n.el (k+1)) (.slice (some ⟨t6,0,none⟩) (m2+1) p10)∧EAt jB (.slice (some ⟨ge,0,none⟩) En cp) (elT s l n)∧Below N w jB):=Zrr (by rw[L.addW_succ A n.el j7.out,nZ.out,pE.out];exact⟨aP,hE9.out.calm aM,fe⟩)))
        clear aP aM fe e8 gR ve;go_wp2_with fail;go_roundw
        case rel=>exact⟨k+1,by omega,by go_num,aA⟩
        case measure=>simp[intOf];omega
    ·have dk:decide ((k:Int)<2*(En:Int))=false:=ZrH (by omega)
     obtain rfl:k=2*En:=by omega
     have aA:Hid (Zhp wr N l s.nodes (L.addP A n.el) u5∧Below N w wr):=Zrr (by
      have:=hI.out;rw[dZ.out,L.addW_end]at this;exact⟨this.1,this.2.2⟩)
     have hBn':Hid (L.Bfs s.nodes a (L.addP A n.el) (i+1) (sz+En)):=Zrr (by rw[dZ.out];exact hBn.out)
     have ic:Hid (i+1≤(L.addP A n.el).length):=Zrr (by
      obtain⟨r,hr⟩:=L.addP_pre A n.el;rw[hr,ZrB];have:=ie.out;omega)
     clear hI;go_wp2_with fail;go_roundw
     case rel=>exact⟨_,i+1,sz+En,ic.out,by omega,by go_num,by go_num,hBn',aA⟩
     case measure=>simp[intOf];omega
  ·have dlt:decide ((i:Int)<(m1:Int))=false:=ZrH (by omega)
   obtain rfl:i=m1:=by omega
   have aa:Zbw s.nodes o=sz:=by
    have:=hB.out;rw[ie.out]at this;exact this.end hond zW
   have gP:=hR.out.2;rw[hN.out]at gP;replace gP:=Zrr gP;replace aa:=Zrr aa;clear hR;go_wp2_with fail;go_ret;exact⟨by rw[aa.out];rfl,gP.out⟩
end Go.Proofs.YtemnmcfmabamcaaGreatDoor
end
