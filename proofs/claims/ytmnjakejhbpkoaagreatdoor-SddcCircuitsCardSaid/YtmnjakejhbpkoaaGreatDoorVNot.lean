import Derived.Test.YtmnjakejhbpkoaaGreatDoorVDec
set_option linter.unusedSimpArgs false
set_option linter.unusedVariables false
set_option maxRecDepth 100000
set_option maxHeartbeats 4000000
namespace Go.Proofs.YtmnjakejhbpkoaaGreatDoor
open Go Go.RowKit Go.Shelf
def ZbI (g:St→Nat→Option (Nat × St)):Prop:=∀(B:Zas) (s s':St) (w:World) (a r:Nat),Rep B s w→g s a=some (r,s') →
 Calls Tryz.prog 107 #[.pointer (some ⟨B.sb,0,none⟩),.int .i64 a] w (ZaB [] (.int .i64 r) B s' w)
theorem Rep.notLook{B:Zas}{s:St}{w:World}(h:Rep B s w)(a:Nat) :
  (Instr.lookup 142 (.map (some B.mb)) (.int .i64 a) true).run Tryz.prog w= .ok (.tuple #[((asc s.nots a).map Zab).getD (.int .i64 0),.bool (asc s.nots a).isSome]) w :=
 h.nots.look Zb6 (T:=142) Tryz.underlying142 _ Zcn a
theorem ZkC(l:List (Nat × Nat)):∀u∈ZaL l,Value.oneCell' u=true:=by
 intro u hu;simp only[ZaL,List.mem_flatMap,List.mem_cons,List.not_mem_nil,or_false]at hu;obtain⟨p,_,rfl|rfl⟩:=hu <;> rfl
theorem ZeU:(Tryz.prog.info? 165).map (fun i=>(i.zero,i.size,i.bytes))=some (some (.agg #[.int .i64 0,.int .i64 0]),2,16):=by kernel_rfl
theorem ZeE(w:World)(b o c:Nat)(l:List (Nat × Nat))(h:Zca w b o 165 (ZaL l))(hl:l.length≤1048576) :
  Calls Tryz.prog 170 #[.slice (some ⟨b,o,none⟩) l.length c] w fun e w'=>∃g cap cs,e= .returned (.slice (some ⟨g,0,none⟩) l.length cap)∧w.heap.size≤g ∧
   w'.heap[g]? =some (.cells cs ZaO (0,0))∧(∀j u,(ZaL l)[j]? =some u→cs[0+j]? =some u)∧Below w.heap.size w w':=by
 obtain⟨i0,cX,bB,ak,bE⟩:=info_parts ZeU;have h1:=AnyE.slices_Clone Tryz.clonePair i0 (.agg #[.int .i64 0,.int .i64 0]) 2 16 cX bB ak bE (by rfl) (by omega) ZlB b o l.length c (ZaL l) w (by rw[ZcD];omega) (by unfold maxLen;omega) (by omega) (fun j u hj=>h.cell hj) (ZkC l);refine h1.mono ?_;rintro e w' ⟨v',rfl,bH,aH,hb⟩;obtain⟨aL,⟨e0,_⟩|⟨g,cap,cur,rfl,hg,hh,hn,hm,hs,ht⟩⟩:=bH
 ·exact absurd e0 aH
 ·refine⟨g,cap,cur,rfl,hg,hh,fun j u hj=>?_,hb⟩
  rw[←ht,List.getElem?_take]at hj
  split at hj
  ·simpa using hj
  ·simp at hj
theorem ZkD(c:Array Value)(l:List (Nat × Nat))(k q:Nat)(hk:k<l.length)(h:∀j u,(ZaL l)[j]? =some u→c[0+j]? =some u) :
  ∀j u,(ZaL (l.set k (l[k].1,q)))[j]? =some u→(c.setIfInBounds (k*2+1) (.int .i64 q))[0+j]? =some u:=by
 intro j u hj;have hb:=(h (k*2+1) _ (Zbe l k hk).2)
 have aE:k*2+1<c.size:=by
  have:=(Zpi hb).1;omega
 have gT:j<2*l.length:=by
  have:=(Zpj hj).1;rw[ZcD,List.length_set]at this;exact this
 obtain⟨i,hi⟩:∃i,j=i*2∨j=i*2+1:=⟨j / 2,by omega⟩;have fl:i<l.length:=by omega
 have sL:i<(l.set k (l[k].1,q)).length:=by rw[List.length_set];exact fl
 obtain⟨g1,g2⟩:=Zbe _ i sL;obtain⟨g3,g4⟩:=Zbe l i fl;rw[Array.getElem?_setIfInBounds];rcases hi with rfl|rfl
 ·rw[g1]at hj
  rw[if_neg (by omega),h _ _ g3];rw[←hj]
  by_cases nO:k=i
  ·subst nO;simp
  ·simp[List.getElem_set,nO]
 ·rw[g2]at hj
  by_cases nO:k=i
  ·subst nO
   rw[if_pos (by omega),if_pos (by omega)];rw[←hj];simp
  ·rw[if_neg (by omega),h _ _ g4,←hj]
   simp[List.getElem_set,nO]
end Go.Proofs.YtmnjakejhbpkoaaGreatDoor
namespace Go.Proofs.YtmnjakejhbpkoaaGreatDoor
open Go Go.RowKit Go.Shelf
theorem Zjc.imp{P:Program}{T:TypeId}{mb:Nat}{ka va kb vb:Value}{w:World}{t:ZoZ}{Ok Fin Ok' Fin':World→Prop}(h:Zjc P T mb ka va kb vb w t Ok Fin)(h1:∀w,Ok w→Ok' w)(h2:∀w,Fin w→Fin' w) :
  Zjc P T mb ka va kb vb w t Ok' Fin' :=
 ⟨h.eA,h.eAx,h.eAxB,h.e1,h.eAB,h.eABx,h.e2,h.eABy,h.e3,h1 _ h.oA,h1 _ h.oAx,h1 _ h.oAxB,h1 _ h.oAB,h1 _ h.oABx,h1 _ h.oABy,h2 _ h.d1,h2 _ h.d2,h2 _ h.d3⟩
theorem ZiP{B:Zas}{s:St}{w:World}(h:Rep B s w)(a b:Nat):∃t t',
  Zjc Tryz.prog 142 B.mb (.int .i64 a) (.int .i64 b) (.int .i64 b) (.int .i64 a) w t (fun W=>W.cell? ⟨B.sb,5,none⟩=some (.map (some B.mb))) (fun f=>Rep B { s with nots:=(b,a) :: (a,b) :: s.nots } f∧Stp [] B w B f) ∧
  Zjc Tryz.prog 142 B.mb (.int .i64 b) (.int .i64 a) (.int .i64 a) (.int .i64 b) w t' (fun W=>W.cell? ⟨B.sb,5,none⟩=some (.map (some B.mb))) (fun f=>Rep B { s with nots:=(b,a) :: (a,b) :: s.nots } f∧Stp [] B w B f):=by
 obtain⟨cap,_,_,_,_,_,c5⟩:=h.cells;have aH:B.sb≠B.mb:=Ne.symm h.ub_ne.2.2.2.2.1;have aq:∀W,But B.mb w W→W.cell? ⟨B.sb,5,none⟩=some (.map (some B.mb)):=fun W hW=>(World.cell?_of_block (a:=⟨B.sb,5,none⟩) (hW.1 _ aH)).trans c5
 obtain⟨t,ht⟩:=ZmZ h.nots Zb6 (T:=142) Tryz.underlying142 _ Zcn a b b a (fun e=>e.symm);obtain⟨t',yE⟩:=ZmZ h.nots Zb6 (T:=142) Tryz.underlying142 _ Zcn b a a b (fun e=>e.symm);refine⟨t,t',ht.imp aq (fun f hf=>h.nots2 a b b a hf),yE.imp aq (fun f hf=>h.nots2 a b b a ?_)⟩;rw[ZgA (asc s.nots) a b b a (fun e=>e.symm)];exact hf
theorem Zlc{B:Zas}{s:St}{w:World}{a:Nat}(h:Rep B s w)(ha:a<2) :
  Calls Tryz.prog 107 #[.pointer (some ⟨B.sb,0,none⟩),.int .i64 a] w (ZaB [] (.int .i64 (1 - a:Nat)) B s w):=by
 obtain rfl|rfl:a=0∨a=1:=by omega
 ·go_enter Tryz.func107,Tryz.ntmps107
  go_wp2_with fail;go_ret;exact⟨rfl,B,h,Stp.refl _ _ _⟩
 ·go_enter Tryz.func107,Tryz.ntmps107
  go_wp2_with fail;go_ret;exact⟨rfl,B,h,Stp.refl _ _ _⟩
theorem ZnF{B:Zas}{s:St}{w:World}{a b:Nat}(h:Rep B s w)(ha:¬ a<2)(hb:asc s.nots a=some b) :
  Calls Tryz.prog 107 #[.pointer (some ⟨B.sb,0,none⟩),.int .i64 a] w (ZaB [] (.int .i64 b) B s w):=by
 obtain⟨cap,_,_,_,_,_,c5⟩:=h.cells;have az:=h.notLook a;rw[hb]at az;have eG:(Instr.lookup 142 (.map (some B.mb)) (.int .i64 a) true).run Tryz.prog w= .ok (.tuple #[.int .i64 b,.bool true]) w:=az;clear az hb;have aE:¬ ((a:Int)<2):=by omega
 go_enter Tryz.func107,Tryz.ntmps107
 go_wp2_with fail;go_ret;exact⟨rfl,B,h,Stp.refl _ _ _⟩
theorem ZnG{B:Zas}{s s1:St}{w:World}{a b:Nat}{n:Zaf}(h:Rep B s w)(ha:¬ a<2)(hb:asc s.nots a=none)(hn:s.nodes[a]? =some n)(hl:n.lit≠0)(he:Zbq s (-n.lit) n.pl=some (b,s1)) :
  Calls Tryz.prog 107 #[.pointer (some ⟨B.sb,0,none⟩),.int .i64 a] w (ZaB [] (.int .i64 b) B { s1 with nots:=(b,a) :: (a,b) :: s1.nots } w):=by
 obtain⟨cap,_,_,cn,_,_,c5⟩:=h.cells;obtain⟨v,hv,iI,n0,n1,n2,n3,n4⟩:=h.node hn;have gJ:=h.small.2 n (List.mem_of_getElem? hn);have nG:a<s.nodes.length:=(Zpj hn).1;have az:=h.notLook a;rw[hb]at az;have eG:(Instr.lookup 142 (.map (some B.mb)) (.int .i64 a) true).run Tryz.prog w= .ok (.tuple #[.int .i64 0,.bool false]) w:=az;clear az hb;have aE:¬ ((a:Int)<2):=by omega
 have kC:(0:Int)≤a:=by omega
 have gQ:(a:Int)<s.nodes.length:=by omega
 have eR:(n.lit !=0)=true:=by simpa using hl
 have p7:IntKind.i64.wrap (-n.lit)= -n.lit:=IntWalk.i64_in _ (by omega);have cq:=h.small.1;obtain⟨ba,cp,rfl,ap⟩:=hv;have aK:=Zpm w (.cells #[.int .i64 n.pl,.int .i64 n.lit,.slice ba n.el.length cp,.int .u64 (lo n.le),.int .u64 (hi n.le)] 158);have aV:Ext w (w.alloc (.cells #[.int .i64 n.pl,.int .i64 n.lit,.slice ba n.el.length cp,.int .u64 (lo n.le),.int .u64 (hi n.le)] 158)):=(Ext.refl w).alloc _;have hq:=ZeZ (h.below aV.below) he
 go_enter Tryz.func107,Tryz.ntmps107
 go_wp2_with fail;obtain⟨b0,b1,b2,b3,b4,_⟩:=Zbb aK;clear aK;generalize w.alloc (.cells #[.int .i64 n.pl,.int .i64 n.lit,.slice ba n.el.length cp,.int .u64 (lo n.le),.int .u64 (hi n.le)] 158)=w1 at *
 try go_wp2_with fail
 refine hq.mono ?_;rintro e w2 ⟨rfl,B2,bM,aZ⟩;have hS:Stp [] B w B2 w2:=(Stp.of_below (X:=[]) aV.below).then aZ
 have fF:B2.sb=B.sb:=hS.sb;obtain⟨t,t',h1,h2⟩:=ZiP (bM.below ((Zpr _ w2).drew)) a b;obtain⟨_,_,_,_,_,_,d5⟩:=(bM.below ((Zpr _ w2).drew)).cells;rw[fF]at d5 h1 h2;obtain⟨eA,eAx,eAxB,e1,eAB,eABx,e2,eABy,e3,oA,oAx,oAxB,oAB,oABx,oABy,d1,d2,d3⟩:=h1;obtain⟨eA',eAx',eAxB',iX,eAB',eABx',jv,eABy',e3',oA',oAx',oAxB',oAB',oABx',oABy',lz,mB,mC⟩:=h2;have d1:=Zpe d1;have d2:=Zpe d2;have d3:=Zpe d3;have lz:=Zpe lz;have mB:=Zpe mB;have mC:=Zpe mC;have hS:=Zpe hS;clear bM aZ hq iI ap gJ hn he aV n0 n1 n2 n3 n4 b0 b1 b2 b3 b4 cn c5 eG h;go_wp2_with fail
 go_region_law (fail)
 all_goals
  go_wp2_with fail;go_ret
  first
   | exact⟨rfl,B2,d1.out.1,hS.out.then ((Stp.of_below (X:=[]) ((Zpr _ w2).drew)).then d1.out.2)⟩
   | exact⟨rfl,B2,d2.out.1,hS.out.then ((Stp.of_below (X:=[]) ((Zpr _ w2).drew)).then d2.out.2)⟩
   | exact⟨rfl,B2,d3.out.1,hS.out.then ((Stp.of_below (X:=[]) ((Zpr _ w2).drew)).then d3.out.2)⟩
   | exact⟨rfl,B2,lz.out.1,hS.out.then ((Stp.of_below (X:=[]) ((Zpr _ w2).drew)).then lz.out.2)⟩
   | exact⟨rfl,B2,mB.out.1,hS.out.then ((Stp.of_below (X:=[]) ((Zpr _ w2).drew)).then mB.out.2)⟩
   | exact⟨rfl,B2,mC.out.1,hS.out.then ((Stp.of_below (X:=[]) ((Zpr _ w2).drew)).then mC.out.2)⟩
end Go.Proofs.YtmnjakejhbpkoaaGreatDoor
namespace Go.Proofs.YtmnjakejhbpkoaaGreatDoor
open Go Go.RowKit Go.Shelf
theorem Rep.tight{B:Zas}{s:St}{w:World}(h:Rep B s w):Rep { B with eb:=B.eb.filter (fun k=>decide (k<w.heap.size)) } s w:=by
 obtain⟨a1,a2,a3,⟨nv,vs,aW,bu,he⟩,a5,a6,a7,a8,a9,uq,ur⟩:=h;refine⟨a1,a2,a3,⟨nv,vs,aW,bu,fun v hv b hb=>?_⟩,a5,a6,a7,a8,a9,uq,ur⟩;refine List.mem_filter.2 ⟨he v hv b hb,?_⟩;obtain⟨i,hi,rfl⟩:=List.getElem_of_mem hv;have cG:=bu.els i (by rw[←bu.len];exact hi) hi;obtain⟨ba,c,e1,⟨e2,_⟩|⟨b',o,e2,hr⟩⟩:=cG
 ·rw[e1,e2]at hb;simp[Value.ownBlock]at hb
 ·rw[e1,e2]at hb
  simp[Value.ownBlock]at hb;subst hb;simpa using hr.lt
theorem ZaB.loose{X:List Nat}{v:Value}{B:Zas}{eb:List Nat}{s:St}{w:World}(hs:∀k∈eb,k∈B.eb):∀e w',ZaB X v { B with eb:=eb } s w e w'→ZaB X v B s w e w':=by
 rintro e w' ⟨rfl,B',hr,h⟩;exact⟨rfl,B',hr,⟨h.fr,h.sb,h.new,fun k hk=>(h.newe k hk).imp (hs k) id⟩⟩
theorem Zly(l:List (Nat × Nat))(k:Nat)(p:Nat × Nat)(hk:k<l.length):(l.set k p).take (k+1)=l.take k++[p]∧(l.set k p).drop (k+1)=l.drop (k+1):=by
 constructor
 ·rw[List.take_succ_eq_append_getElem (by rw[List.length_set];exact hk),List.take_set_of_le (ZpD _),List.getElem_set_self]
 ·rw[List.drop_set_of_lt (Nat.lt_succ_self _)]
theorem Zg5{g:St→Nat→Option (Nat × St)}{s s':St}{p:Nat × Nat}{r l:List (Nat × Nat)}(h:ZbO g s (p :: r)=some (l,s')) :
  ∃q s1 l1,g s p.2=some (q,s1)∧ZbO g s1 r=some (l1,s')∧l=(p.1,q) :: l1:=by
 unfold ZbO at h
 split at h
 ·cases h
 ·rename_i q s1 h1
  split at h
  ·cases h
  ·rename_i l1 s2 h2
   simp only[Zpw,Prod.mk.injEq]at h;exact⟨q,s1,l1,h1,h.2 ▸ h2,h.1.symm⟩
def Zhx (g:St→Nat→Option (Nat × St))(B:Zas)(w:World)(n:Zaf)(vsl:Value)(gb:Nat)(l:List (Nat × Nat))(s1:St)(k:Nat)(wr:World):Prop :=
 ∃(B':Zas) (sk:St) (lc l2:List (Nat × Nat)) (cs:Array Value),Rep B' sk wr∧Stp [] B w B' wr∧w.heap.size∉B'.mut∧gb∉B'.eb ∧
   wr.heap[w.heap.size]? =some (.cells #[.int .i64 n.pl,.int .i64 0,vsl,.int .u64 (lo n.le),.int .u64 (hi n.le)] Za6 (0,0)) ∧
   wr.heap[gb]? =some (.cells cs ZaO (0,0))∧(∀j u,(ZaL lc)[j]? =some u→cs[0+j]? =some u)∧lc.length=n.el.length∧lc.drop k=n.el.drop k∧ZbO g sk (n.el.drop k)=some (l2,s1)∧lc.take k++l2=l
theorem ZnE{g:St→Nat→Option (Nat × St)}(ih:ZbI g){B:Zas}{s s1 s2:St}{w:World}{a b:Nat}{n:Zaf}{l:List (Nat × Nat)}(h:Rep B s w)(ob:∀k∈B.eb,k<w.heap.size)(ha:¬ a<2)(hb:asc s.nots a=none)(hn:s.nodes[a]? =some n)(hl:n.lit=0)
  (da:ZbO g s n.el=some (l,s1)) (he:Zbn s1 n.pl l=some (b,s2)) :
  Calls Tryz.prog 107 #[.pointer (some ⟨B.sb,0,none⟩),.int .i64 a] w (ZaB [] (.int .i64 b) B { s2 with nots:=(b,a) :: (a,b) :: s2.nots } w):=by
 obtain⟨cap,_,_,cn,_,_,c5⟩:=h.cells;obtain⟨v,hv,iI,n0,n1,n2,n3,n4⟩:=h.node hn;have gJ:=h.small.2 n (List.mem_of_getElem? hn);have nG:a<s.nodes.length:=(Zpj hn).1;have az:=h.notLook a;rw[hb]at az;have eG:(Instr.lookup 142 (.map (some B.mb)) (.int .i64 a) true).run Tryz.prog w= .ok (.tuple #[.int .i64 0,.bool false]) w:=az;clear az hb;have aE:¬ ((a:Int)<2):=by omega
 have kC:(0:Int)≤a:=by omega
 have gQ:(a:Int)<s.nodes.length:=by omega
 have cq:=h.small.1;rw[hl]at n1;obtain⟨ba,cp,rfl,ap⟩:=hv
 have dE:n.el≠[]:=by
  intro e;rw[e]at da;simp only[ZbO,Zpw,Prod.mk.injEq]at da;rw[←da.1]at he;simp[Zbn]at he
 obtain⟨vb,vo,rfl,aJ⟩:∃vb vo,ba=some ⟨vb,vo,none⟩∧Zca w vb vo 165 (ZaL n.el):=by
  rcases ap with ⟨_,e,_⟩|⟨vb,vo,e,hr⟩
  ·exact absurd e dE
  ·exact⟨vb,vo,e,hr⟩
 have aK:=Zpm w (.cells #[.int .i64 n.pl,.int .i64 0,.slice (some ⟨vb,vo,none⟩) n.el.length cp,.int .u64 (lo n.le),.int .u64 (hi n.le)] 158);have aV:Ext w (w.alloc (.cells #[.int .i64 n.pl,.int .i64 0,.slice (some ⟨vb,vo,none⟩) n.el.length cp,.int .u64 (lo n.le),.int .u64 (hi n.le)] 158)):=(Ext.refl w).alloc _;have cG:n.el.length≤1048576:=gJ.2.2.2.2.1;have hq:=ZeE _ vb vo cp n.el (aJ.same (aV.below.block vb aJ.lt)) cG;have uQ:=h.mut_old;clear ap iI;replace da:=Zpe da;replace he:=Zpe he;replace hn:=Zpe hn;replace dE:=Zpe dE;replace uQ:=Zpe uQ;have p9:=aV.below
 go_enter Tryz.func107,Tryz.ntmps107
 go_wp2_with fail;have lP:w.heap.size<(w.alloc (.cells #[.int .i64 n.pl,.int .i64 0,.slice (some ⟨vb,vo,none⟩) n.el.length cp,.int .u64 (lo n.le),.int .u64 (hi n.le)] 158)).heap.size:=by simp
 generalize w.alloc (.cells #[.int .i64 n.pl,.int .i64 0,.slice (some ⟨vb,vo,none⟩) n.el.length cp,.int .u64 (lo n.le),.int .u64 (hi n.le)] 158)=w1 at *;obtain⟨b0,b1,b2,b3,b4,_⟩:=Zbb aK
 try go_wp2_with fail
 refine hq.mono ?_;rintro e w2 ⟨gb,gcap,gcs,rfl,bk,bV,kL,aP⟩;have fN:Below w.heap.size w w2:=p9.trans (aP.mono (by omega));have bM:=h.below fN;have di:=(aP.block _ lP).trans aK;have aZ:Stp [] B w B w2:=Stp.of_below fN;clear hq aK b0 b1 b2 b3 b4 n0 n1 n2 n3 n4 cn c5 eG aV p9;have hw2s:w.heap.size<w2.heap.size:=by have:=aP.size;omega
 have aQ:Hid (Zhx g B w n (.slice (some ⟨vb,vo,none⟩) n.el.length cp) gb l s1 0 w2):=Zpe
  ⟨B,s,n.el,l,gcs,bM,aZ,(fun hc=>Nat.lt_irrefl _ (uQ.out _ hc)),(fun hc=>by have:=ob _ hc;omega),di,bV,kL,rfl,rfl,da.out,rfl⟩
 have hgbw:w1.heap.size≤gb:=bk
 have uJ:gb≠ZcR∧gb≠gTz:=by
  have g1:=h.pow.lt;have g2:=h.tz.lt';omega
 clear bV kL di bM aZ fN aP uQ ob aJ da bk h;go_wp2_with fail
 go_loopw [48] (fun i wr=>∃k:Nat,k≤n.el.length∧i= .int .i64 k∧Hid (Zhx g B w n (.slice (some ⟨vb,vo,none⟩) n.el.length cp) gb l s1 k wr))
  (fun i _=>n.el.length - (intOf i).toNat)
 case atStart=>exact⟨0,Nat.zero_le _,rfl,aQ⟩
 case round =>
  clear aQ;obtain⟨k,hk,rfl,hI⟩:=hrel;obtain⟨B',sk,lc,l2,cs,eu,fP,uT,aH,ao,bV,kL,aL,ik,da,fH⟩:=hI.out;clear hI;have fF:B'.sb=B.sb:=fP.sb
  by_cases hlt2:k<n.el.length
  ·have qP:k<lc.length:=by omega
   have qO:lc[k]=n.el[k]:=by
    have h1:=List.drop_eq_getElem_cons qP;have h2:=List.drop_eq_getElem_cons hlt2;rw[h1,h2]at ik;exact(List.cons.inj ik).1
   rw[List.drop_eq_getElem_cons hlt2]at da;obtain⟨q,sk2,l3,hg,pD,rfl⟩:=Zg5 da;obtain⟨e0,e1⟩:=Zbe lc k qP;have iX:=kL _ _ e1;have c1:wr.cell? ⟨gb,k*2+1,none⟩=some (.int .i64 (lc[k].2:Nat)):=by simp[World.cell?,bV];simpa using iX
   rw[qO]at c1;have be:=ih B' sk sk2 wr n.el[k].2 q eu hg;rw[fF]at be;generalize n.el[k]=p at *;obtain⟨p1,p2⟩:=p;simp only at c1 be hg;replace da:=Zpe da;replace pD:=Zpe pD;replace kL:=Zpe kL;replace ik:=Zpe ik;replace fH:=Zpe fH;replace qO:=Zpe qO;replace ao:=Zpe ao;replace bV:=Zpe bV;replace eu:=Zpe eu;clear e0 e1 iX hg;go_wp2_with fail;refine be.mono ?_;rintro e w5 ⟨rfl,B5,eP,cT⟩;have kw:=cT.keep bV.out (eu.out.not_mut bV.out (by simp[ZaO,Za6]) (by simp[ZaO,ZaU])) (by simp);have re:=cT.keep ao.out uT (by simp);have gl:=(Zpi bV.out).1;have bl:=(Zpi ao.out).1
   have sY:w.heap.size∉B5.mut:=fun hc=>by
    rcases cT.new _ hc with h1|h1
    ·exact uT h1
    ·omega
   have pF:gb∉B5.eb:=fun hc=>by
    rcases cT.newe _ hc with h1|h1|h1
    ·exact aH h1
    ·omega
    ·simp at h1
   have fz:w5.frozen? ⟨gb,k*2+1,none⟩=false:=by simp[World.frozen?,kw]
   have c15:w5.cell? ⟨gb,k*2+1,none⟩=some (.int .i64 p2):=(World.cell?_of_block (a:=⟨gb,k*2+1,none⟩) (kw.trans bV.out.symm)).trans c1
   have aM:Hid (Zhx g B w n (.slice (some ⟨vb,vo,none⟩) n.el.length cp) gb l s1 (k+1) (w5.setCell ⟨gb,k*2+1,none⟩ (.int .i64 q))):=Zpe (by
    have mg:=Zly lc k (p1,q) qP;have jk:lc[k].1=p1:=by rw[qO.out]
    have xc:∀j,j≠gb→(w5.setCell ⟨gb,k*2+1,none⟩ (.int .i64 q)).heap[j]? =w5.heap[j]?:=fun j hj=>Below.heap_setCell _ _ _ j hj
    refine⟨B5,sk2,lc.set k (p1,q),l3,_,eP.off kw pF uJ (fun j o hj _=>xc j hj),((fP.then cT).trans (Stp.of_but (X:=[gb]) (w':=w5.setCell ⟨gb,k*2+1,none⟩ (.int .i64 q)) ⟨rfl,rfl,rfl⟩ (by simp) (fun j _ hj=>xc j (by simpa using hj)))).weak (fun x hx=>?_),sY,pF,(xc _ (by omega)).trans re,Zag kw _ _,?_,by rw[List.length_set];exact aL,?_,pD.out,?_⟩
    ·simp at hx;subst hx;exact .inr (by omega)
    ·have:=ZkD cs lc k q qP kL.out
     rw[jk]at this;exact this
    ·rw[mg.2]
     have:=congrArg (List.drop 1) ik.out;simpa [List.drop_drop] using this
    ·rw[mg.1,←fH.out];simp)
   clear eP cT kw re sY pF c1 be;go_wp2_with fail;go_roundw
   case rel=>exact⟨k+1,by omega,by go_num,aM⟩
   case measure=>simp[intOf];omega
  ·obtain rfl:k=n.el.length:=by omega
   simp only[List.drop_length,ZbO,Zpw,Prod.mk.injEq]at da;obtain⟨rfl,rfl⟩:=da;have uN:lc=l:=by rw[←fH,←aL];simp
   subst uN;obtain⟨b0,b1,b2,b3,b4,_⟩:=Zbb ao;have hq:=ZcQ (cap:=gcap) (off:=0) eu bV kL aH uJ (by omega) he.out;rw[fF,aL]at hq;have sG:w.heap.size≤gb:=by omega
   clear ao bV kL ik fH aL;replace eu:=Zpe eu;replace fP:=Zpe fP;go_wp2_with fail;refine hq.mono ?_;rintro e w5 ⟨rfl,B5,eP,cT⟩;have hS:Stp [] B w B5 w5:=(fP.out.trans cT).weak (fun x hx=>.inr (by simp at hx;subst hx;exact sG));have xw:B5.sb=B.sb:=hS.sb;obtain⟨t,t',h1,h2⟩:=ZiP (eP.below ((Zpr _ w5).drew)) a b;obtain⟨_,_,_,_,_,_,d5⟩:=(eP.below ((Zpr _ w5).drew)).cells;rw[xw]at d5 h1 h2;obtain⟨eA,eAx,eAxB,e1,eAB,eABx,e2,eABy,e3,oA,oAx,oAxB,oAB,oABx,oABy,d1,d2,d3⟩:=h1;obtain⟨eA',eAx',eAxB',iX,eAB',eABx',jv,eABy',e3',oA',oAx',oAxB',oAB',oABx',oABy',lz,mB,mC⟩:=h2;have d1:=Zpe d1;have d2:=Zpe d2;have d3:=Zpe d3;have lz:=Zpe lz;have mB:=Zpe mB;have mC:=Zpe mC;have hS:=Zpe hS;clear eP cT hq b0 b1 b2 b3 b4;go_wp2_with fail
   go_region_law (fail)
   all_goals
    go_wp2_with fail;go_ret
    first
     | exact⟨rfl,B5,d1.out.1,hS.out.then ((Stp.of_below (X:=[]) ((Zpr _ w5).drew)).then d1.out.2)⟩
     | exact⟨rfl,B5,d2.out.1,hS.out.then ((Stp.of_below (X:=[]) ((Zpr _ w5).drew)).then d2.out.2)⟩
     | exact⟨rfl,B5,d3.out.1,hS.out.then ((Stp.of_below (X:=[]) ((Zpr _ w5).drew)).then d3.out.2)⟩
     | exact⟨rfl,B5,lz.out.1,hS.out.then ((Stp.of_below (X:=[]) ((Zpr _ w5).drew)).then lz.out.2)⟩
     | exact⟨rfl,B5,mB.out.1,hS.out.then ((Stp.of_below (X:=[]) ((Zpr _ w5).drew)).then mB.out.2)⟩
     | exact⟨rfl,B5,mC.out.1,hS.out.then ((Stp.of_below (X:=[]) ((Zpr _ w5).drew)).then mC.out.2)⟩
theorem ZcV:∀f,ZbI (Zlb f):=by
 intro f
 induction f with
 | zero=>intro B s s' w a r h he;cases he
 | succ f ih =>
   intro B s s' w a r h he;unfold Zlb at he
   split at he
   ·rename_i ha
    simp only[Zpw,Prod.mk.injEq]at he;obtain⟨rfl,rfl⟩:=he;exact Zlc h ha
   ·rename_i ha
    split at he
    ·rename_i b hb
     simp only[Zpw,Prod.mk.injEq]at he;obtain⟨rfl,rfl⟩:=he;exact ZnF h ha hb
    ·rename_i hb
     split at he
     ·cases he
     ·rename_i n hn
      cases hnn:Zg8 (Zlb f) s n with
      | none=>rw[hnn]at he;cases he
      | some p =>
        obtain⟨b,s2⟩:=p;rw[hnn]at he;simp only[Zh9,Zpw,Prod.mk.injEq]at he;obtain⟨rfl,rfl⟩:=he;unfold Zg8 at hnn
        split at hnn
        ·rename_i hl
         split at hnn
         ·cases hnn
         ·rename_i l s1 da
          exact(ZnE ih h.tight (fun k hk=>by simpa using (List.mem_filter.1 hk).2) ha hb hn hl da hnn).mono (ZaB.loose (fun k hk=>(List.mem_filter.1 hk).1))
        ·rename_i hl
         exact ZnG h ha hb hn hl hnn
end Go.Proofs.YtmnjakejhbpkoaaGreatDoor
