import Derived.Test.YtemnmcfmabamcaaGreatDoorYDec
set_option linter.unusedSimpArgs false
set_option linter.unusedVariables false
set_option maxRecDepth 100000
set_option maxHeartbeats 4000000
namespace Go.Proofs.YtemnmcfmabamcaaGreatDoor
open Go Go.RowKit Go.Shelf
def ZcA (g:St→Nat→Option (Nat × St)):Prop:=∀(B:Zar) (s s':St) (w:World) (a r:Nat),Rep B s w→g s a=some (r,s') →
 Calls Tryz.prog 103 #[.pointer (some ⟨B.sb,0,none⟩),.int .i64 a] w (ZaF [] (.int .i64 r) B s' w)
theorem Rep.notLook{B:Zar}{s:St}{w:World}(h:Rep B s w)(a:Nat) :
  (Instr.lookup 62 (.map (some B.mb)) (.int .i64 a) true).run Tryz.prog w= .ok (.tuple #[((asc s.nots a).map Zad).getD (.int .i64 0),.bool (asc s.nots a).isSome]) w :=
 h.nots.look Zcw (T:=62) Tryz.underlying62 _ ZcQ a
theorem ZlV(l:List (Nat × Nat)):∀u∈ZaO l,Value.oneCell' u=true:=by
 intro u hu;simp only[ZaO,List.mem_flatMap,List.mem_cons,List.not_mem_nil,or_false]at hu;obtain⟨p,_,rfl|rfl⟩:=hu <;> rfl
theorem Zfx:(Tryz.prog.info? 130).map (fun i=>(i.zero,i.size,i.bytes))=some (some (.agg #[.int .i64 0,.int .i64 0]),2,16):=by kernel_rfl
theorem ZdJ(w:World)(b o c:Nat)(l:List (Nat × Nat))(h:ZcU w b o 130 (ZaO l))(hl:l.length≤1048576) :
  Calls Tryz.prog 118 #[.slice (some ⟨b,o,none⟩) l.length c] w fun e w'=>∃g cap cs,e= .returned (.slice (some ⟨g,0,none⟩) l.length cap)∧w.heap.size≤g ∧
   w'.heap[g]? =some (.cells cs ZaN (0,0))∧(∀j u,(ZaO l)[j]? =some u→cs[0+j]? =some u)∧Below w.heap.size w w':=by
 obtain⟨i0,bz,bH,aj,av⟩:=info_parts Zfx;have h1:=AnyE.slices_Clone Tryz.clonePair i0 (.agg #[.int .i64 0,.int .i64 0]) 2 16 bz bH aj av (by rfl) (by omega) ZmU b o l.length c (ZaO l) w (by rw[Zcs];omega) (by unfold maxLen;omega) (by omega) (fun j u hj=>h.cell hj) (ZlV l);refine h1.mono ?_;rintro e w' ⟨v',rfl,bR,aJ,hb⟩;obtain⟨aX,⟨e0,_⟩|⟨g,cap,cur,rfl,hg,hh,hn,hm,hs,ht⟩⟩:=bR
 ·exact absurd e0 aJ
 ·refine⟨g,cap,cur,rfl,hg,hh,fun j u hj=>?_,hb⟩
  rw[←ht,List.getElem?_take]at hj
  split at hj
  ·simpa using hj
  ·simp at hj
theorem ZlX(c:Array Value)(l:List (Nat × Nat))(k q:Nat)(hk:k<l.length)(h:∀j u,(ZaO l)[j]? =some u→c[0+j]? =some u) :
  ∀j u,(ZaO (l.set k (l[k].1,q)))[j]? =some u→(c.setIfInBounds (k*2+1) (.int .i64 q))[0+j]? =some u:=by
 intro j u hj;have hb:=(h (k*2+1) _ (Za3 l k hk).2)
 have aD:k*2+1<c.size:=by
  have:=(Zrv hb).1;omega
 have db:j<2*l.length:=by
  have:=(Zrw hj).1;rw[Zcs,List.length_set]at this;exact this
 obtain⟨i,hi⟩:∃i,j=i*2∨j=i*2+1:=⟨j / 2,by omega⟩;have ex:i<l.length:=by omega
 have yp:i<(l.set k (l[k].1,q)).length:=by rw[List.length_set];exact ex
 obtain⟨g1,g2⟩:=Za3 _ i yp;obtain⟨g3,g4⟩:=Za3 l i ex;rw[Array.getElem?_setIfInBounds];rcases hi with rfl|rfl
 ·rw[g1]at hj
  rw[if_neg (by omega),h _ _ g3];rw[←hj]
  by_cases s8:k=i
  ·subst s8;simp
  ·simp[List.getElem_set,s8]
 ·rw[g2]at hj
  by_cases s8:k=i
  ·subst s8
   rw[if_pos (by omega),if_pos (by omega)];rw[←hj];simp
  ·rw[if_neg (by omega),h _ _ g4,←hj]
   simp[List.getElem_set,s8]
end Go.Proofs.YtemnmcfmabamcaaGreatDoor
namespace Go.Proofs.YtemnmcfmabamcaaGreatDoor
open Go Go.RowKit Go.Shelf
theorem Zkg.imp{P:Program}{T:TypeId}{mb:Nat}{ka va kb vb:Value}{w:World}{t:Zrk}{Ok Fin Ok' Fin':World→Prop}(h:Zkg P T mb ka va kb vb w t Ok Fin)(h1:∀w,Ok w→Ok' w)(h2:∀w,Fin w→Fin' w) :
  Zkg P T mb ka va kb vb w t Ok' Fin' :=
 ⟨h.eA,h.eAx,h.eAxB,h.e1,h.eAB,h.eABx,h.e2,h.eABy,h.e3,h1 _ h.oA,h1 _ h.oAx,h1 _ h.oAxB,h1 _ h.oAB,h1 _ h.oABx,h1 _ h.oABy,h2 _ h.d1,h2 _ h.d2,h2 _ h.d3⟩
theorem ZjS{B:Zar}{s:St}{w:World}(h:Rep B s w)(a b:Nat):∃t t',
  Zkg Tryz.prog 62 B.mb (.int .i64 a) (.int .i64 b) (.int .i64 b) (.int .i64 a) w t (fun W=>W.cell? ⟨B.sb,5,none⟩=some (.map (some B.mb))) (fun f=>Rep B { s with nots:=(b,a) :: (a,b) :: s.nots } f∧Stp [] B w B f) ∧
  Zkg Tryz.prog 62 B.mb (.int .i64 b) (.int .i64 a) (.int .i64 a) (.int .i64 b) w t' (fun W=>W.cell? ⟨B.sb,5,none⟩=some (.map (some B.mb))) (fun f=>Rep B { s with nots:=(b,a) :: (a,b) :: s.nots } f∧Stp [] B w B f):=by
 obtain⟨cap,_,_,_,_,_,c5⟩:=h.cells;have aJ:B.sb≠B.mb:=Ne.symm h.ub_ne.2.2.2.2.1;have rO:∀W,But B.mb w W→W.cell? ⟨B.sb,5,none⟩=some (.map (some B.mb)):=fun W hW=>(World.cell?_of_block (a:=⟨B.sb,5,none⟩) (hW.1 _ aJ)).trans c5
 obtain⟨t,ht⟩:=Zo1 h.nots Zcw (T:=62) Tryz.underlying62 _ ZcQ a b b a (fun e=>e.symm);obtain⟨t',j5⟩:=Zo1 h.nots Zcw (T:=62) Tryz.underlying62 _ ZcQ b a a b (fun e=>e.symm);refine⟨t,t',ht.imp rO (fun f hf=>h.nots2 a b b a hf),j5.imp rO (fun f hf=>h.nots2 a b b a ?_)⟩;rw[ZoF (asc s.nots) a b b a (fun e=>e.symm)];exact hf
theorem Zmm{B:Zar}{s:St}{w:World}{a:Nat}(h:Rep B s w)(ha:a<2) :
  Calls Tryz.prog 103 #[.pointer (some ⟨B.sb,0,none⟩),.int .i64 a] w (ZaF [] (.int .i64 (1 - a:Nat)) B s w):=by
 obtain rfl|rfl:a=0∨a=1:=by omega
 ·go_enter Tryz.func103,Tryz.ntmps103
  go_wp2_with fail;go_ret;exact⟨rfl,B,h,Stp.refl _ _ _⟩
 ·go_enter Tryz.func103,Tryz.ntmps103
  go_wp2_with fail;go_ret;exact⟨rfl,B,h,Stp.refl _ _ _⟩
theorem ZpP{B:Zar}{s:St}{w:World}{a b:Nat}(h:Rep B s w)(ha:¬ a<2)(hb:asc s.nots a=some b) :
  Calls Tryz.prog 103 #[.pointer (some ⟨B.sb,0,none⟩),.int .i64 a] w (ZaF [] (.int .i64 b) B s w):=by
 obtain⟨cap,_,_,_,_,_,c5⟩:=h.cells;have bD:=h.notLook a;rw[hb]at bD;have fO:(Instr.lookup 62 (.map (some B.mb)) (.int .i64 a) true).run Tryz.prog w= .ok (.tuple #[.int .i64 b,.bool true]) w:=bD;clear bD hb;have aD:¬ ((a:Int)<2):=by omega
 go_enter Tryz.func103,Tryz.ntmps103
 go_wp2_with fail;go_ret;exact⟨rfl,B,h,Stp.refl _ _ _⟩
theorem ZpQ{B:Zar}{s s1:St}{w:World}{a b:Nat}{n:Zac}(h:Rep B s w)(ha:¬ a<2)(hb:asc s.nots a=none)(hn:s.nodes[a]? =some n)(hl:n.lit≠0)(he:Zbc s (-n.lit) n.pl=some (b,s1)) :
  Calls Tryz.prog 103 #[.pointer (some ⟨B.sb,0,none⟩),.int .i64 a] w (ZaF [] (.int .i64 b) B { s1 with nots:=(b,a) :: (a,b) :: s1.nots } w):=by
 obtain⟨cap,_,_,cn,_,_,c5⟩:=h.cells;obtain⟨v,hv,jr,n0,n1,n2,n3,n4⟩:=h.node hn;have fw:=h.small.2 n (List.mem_of_getElem? hn);have uE:a<s.nodes.length:=(Zrw hn).1;have bD:=h.notLook a;rw[hb]at bD;have fO:(Instr.lookup 62 (.map (some B.mb)) (.int .i64 a) true).run Tryz.prog w= .ok (.tuple #[.int .i64 0,.bool false]) w:=bD;clear bD hb;have aD:¬ ((a:Int)<2):=by omega
 have ni:(0:Int)≤a:=by omega
 have lU:(a:Int)<s.nodes.length:=by omega
 have eK:(n.lit !=0)=true:=by simpa using hl
 have rp:IntKind.i64.wrap (-n.lit)= -n.lit:=IntWalk.i64_in _ (by omega);have cY:=h.small.1;obtain⟨ba,cp,rfl,gA⟩:=hv;have aC:=Zrz w (.cells #[.int .i64 n.pl,.int .i64 n.lit,.slice ba n.el.length cp,.int .u64 (lo n.le),.int .u64 (hi n.le)] 101);have aW:Ext w (w.alloc (.cells #[.int .i64 n.pl,.int .i64 n.lit,.slice ba n.el.length cp,.int .u64 (lo n.le),.int .u64 (hi n.le)] 101)):=(Ext.refl w).alloc _;have hq:=ZfF (h.below aW.below) he
 go_enter Tryz.func103,Tryz.ntmps103
 go_wp2_with fail;obtain⟨b0,b1,b2,b3,b4,_⟩:=Zbt aC;clear aC;generalize w.alloc (.cells #[.int .i64 n.pl,.int .i64 n.lit,.slice ba n.el.length cp,.int .u64 (lo n.le),.int .u64 (hi n.le)] 101)=w1 at *
 try go_wp2_with fail
 refine hq.mono ?_;rintro e w2 ⟨rfl,B2,bA,bB⟩;have hS:Stp [] B w B2 w2:=(Stp.of_below (X:=[]) aW.below).then bB
 have cK:B2.sb=B.sb:=hS.sb;obtain⟨t,t',h1,h2⟩:=ZjS (bA.below ((ZrE _ w2).drew)) a b;obtain⟨_,_,_,_,_,_,d5⟩:=(bA.below ((ZrE _ w2).drew)).cells;rw[cK]at d5 h1 h2;obtain⟨eA,eAx,eAxB,e1,eAB,eABx,e2,eABy,e3,oA,oAx,oAxB,oAB,oABx,oABy,d1,d2,d3⟩:=h1;obtain⟨eA',eAx',eAxB',mM,eAB',eABx',pf,eABy',e3',oA',oAx',oAxB',oAB',oABx',oABy',kw,oI,mn⟩:=h2;have d1:=Zrr d1;have d2:=Zrr d2;have d3:=Zrr d3;have kw:=Zrr kw;have oI:=Zrr oI;have mn:=Zrr mn;have hS:=Zrr hS;clear bA bB hq jr gA fw hn he aW n0 n1 n2 n3 n4 b0 b1 b2 b3 b4 cn c5 fO h;go_wp2_with fail
 go_region_law (fail)
 all_goals
  go_wp2_with fail;go_ret
  first
   | exact⟨rfl,B2,d1.out.1,hS.out.then ((Stp.of_below (X:=[]) ((ZrE _ w2).drew)).then d1.out.2)⟩
   | exact⟨rfl,B2,d2.out.1,hS.out.then ((Stp.of_below (X:=[]) ((ZrE _ w2).drew)).then d2.out.2)⟩
   | exact⟨rfl,B2,d3.out.1,hS.out.then ((Stp.of_below (X:=[]) ((ZrE _ w2).drew)).then d3.out.2)⟩
   | exact⟨rfl,B2,kw.out.1,hS.out.then ((Stp.of_below (X:=[]) ((ZrE _ w2).drew)).then kw.out.2)⟩
   | exact⟨rfl,B2,oI.out.1,hS.out.then ((Stp.of_below (X:=[]) ((ZrE _ w2).drew)).then oI.out.2)⟩
   | exact⟨rfl,B2,mn.out.1,hS.out.then ((Stp.of_below (X:=[]) ((ZrE _ w2).drew)).then mn.out.2)⟩
end Go.Proofs.YtemnmcfmabamcaaGreatDoor
namespace Go.Proofs.YtemnmcfmabamcaaGreatDoor
open Go Go.RowKit Go.Shelf
theorem Rep.tight{B:Zar}{s:St}{w:World}(h:Rep B s w):Rep { B with eb:=B.eb.filter (fun k=>decide (k<w.heap.size)) } s w:=by
 obtain⟨a1,a2,a3,⟨nv,vs,aM,bN,he⟩,a5,a6,a7,a8,a9,a10,a11⟩:=h;refine⟨a1,a2,a3,⟨nv,vs,aM,bN,fun v hv b hb=>?_⟩,a5,a6,a7,a8,a9,a10,a11⟩;refine List.mem_filter.2 ⟨he v hv b hb,?_⟩;obtain⟨i,hi,rfl⟩:=List.getElem_of_mem hv;have cN:=bN.els i (by rw[←bN.len];exact hi) hi;obtain⟨ba,c,e1,⟨e2,_⟩|⟨b',o,e2,hr⟩⟩:=cN
 ·rw[e1,e2]at hb;simp[Value.ownBlock]at hb
 ·rw[e1,e2]at hb
  simp[Value.ownBlock]at hb;subst hb;simpa using hr.lt
theorem ZaF.loose{X:List Nat}{v:Value}{B:Zar}{eb:List Nat}{s:St}{w:World}(hs:∀k∈eb,k∈B.eb):∀e w',ZaF X v { B with eb:=eb } s w e w'→ZaF X v B s w e w':=by
 rintro e w' ⟨rfl,B',hr,h⟩;exact⟨rfl,B',hr,⟨h.fr,h.sb,h.new,fun k hk=>(h.newe k hk).imp (hs k) id⟩⟩
theorem ZmR(l:List (Nat × Nat))(k:Nat)(p:Nat × Nat)(hk:k<l.length):(l.set k p).take (k+1)=l.take k++[p]∧(l.set k p).drop (k+1)=l.drop (k+1):=by
 constructor
 ·rw[List.take_succ_eq_append_getElem (by rw[List.length_set];exact hk),List.take_set_of_le (ZrQ _),List.getElem_set_self]
 ·rw[List.drop_set_of_lt (Nat.lt_succ_self _)]
theorem ZhV{g:St→Nat→Option (Nat × St)}{s s':St}{p:Nat × Nat}{r l:List (Nat × Nat)}(h:Zb4 g s (p :: r)=some (l,s')) :
  ∃q s1 l1,g s p.2=some (q,s1)∧Zb4 g s1 r=some (l1,s')∧l=(p.1,q) :: l1:=by
 unfold Zb4 at h
 split at h
 ·cases h
 ·rename_i q s1 h1
  split at h
  ·cases h
  ·rename_i l1 s2 h2
   simp only[ZrJ,Prod.mk.injEq]at h;exact⟨q,s1,l1,h1,h.2 ▸ h2,h.1.symm⟩
def Zim (g:St→Nat→Option (Nat × St))(B:Zar)(w:World)(n:Zac)(vsl:Value)(gb:Nat)(l:List (Nat × Nat))(s1:St)(k:Nat)(wr:World):Prop :=
 ∃(B':Zar) (sk:St) (lc l2:List (Nat × Nat)) (cs:Array Value),Rep B' sk wr∧Stp [] B w B' wr∧w.heap.size∉B'.mut∧gb∉B'.eb ∧
   wr.heap[w.heap.size]? =some (.cells #[.int .i64 n.pl,.int .i64 0,vsl,.int .u64 (lo n.le),.int .u64 (hi n.le)] Zbd (0,0)) ∧
   wr.heap[gb]? =some (.cells cs ZaN (0,0))∧(∀j u,(ZaO lc)[j]? =some u→cs[0+j]? =some u)∧lc.length=n.el.length∧lc.drop k=n.el.drop k∧Zb4 g sk (n.el.drop k)=some (l2,s1)∧lc.take k++l2=l
theorem ZpO{g:St→Nat→Option (Nat × St)}(ih:ZcA g){B:Zar}{s s1 s2:St}{w:World}{a b:Nat}{n:Zac}{l:List (Nat × Nat)}(h:Rep B s w)(mV:∀k∈B.eb,k<w.heap.size)(ha:¬ a<2)(hb:asc s.nots a=none)(hn:s.nodes[a]? =some n)(hl:n.lit=0)
  (fV:Zb4 g s n.el=some (l,s1)) (he:ZbB s1 n.pl l=some (b,s2)) :
  Calls Tryz.prog 103 #[.pointer (some ⟨B.sb,0,none⟩),.int .i64 a] w (ZaF [] (.int .i64 b) B { s2 with nots:=(b,a) :: (a,b) :: s2.nots } w):=by
 obtain⟨cap,_,_,cn,_,_,c5⟩:=h.cells;obtain⟨v,hv,jr,n0,n1,n2,n3,n4⟩:=h.node hn;have fw:=h.small.2 n (List.mem_of_getElem? hn);have uE:a<s.nodes.length:=(Zrw hn).1;have bD:=h.notLook a;rw[hb]at bD;have fO:(Instr.lookup 62 (.map (some B.mb)) (.int .i64 a) true).run Tryz.prog w= .ok (.tuple #[.int .i64 0,.bool false]) w:=bD;clear bD hb;have aD:¬ ((a:Int)<2):=by omega
 have ni:(0:Int)≤a:=by omega
 have lU:(a:Int)<s.nodes.length:=by omega
 have cY:=h.small.1;rw[hl]at n1;obtain⟨ba,cp,rfl,gA⟩:=hv
 have ez:n.el≠[]:=by
  intro e;rw[e]at fV;simp only[Zb4,ZrJ,Prod.mk.injEq]at fV;rw[←fV.1]at he;simp[ZbB]at he
 obtain⟨vb,vo,rfl,aT⟩:∃vb vo,ba=some ⟨vb,vo,none⟩∧ZcU w vb vo 130 (ZaO n.el):=by
  rcases gA with ⟨_,e,_⟩|⟨vb,vo,e,hr⟩
  ·exact absurd e ez
  ·exact⟨vb,vo,e,hr⟩
 have aC:=Zrz w (.cells #[.int .i64 n.pl,.int .i64 0,.slice (some ⟨vb,vo,none⟩) n.el.length cp,.int .u64 (lo n.le),.int .u64 (hi n.le)] 101);have aW:Ext w (w.alloc (.cells #[.int .i64 n.pl,.int .i64 0,.slice (some ⟨vb,vo,none⟩) n.el.length cp,.int .u64 (lo n.le),.int .u64 (hi n.le)] 101)):=(Ext.refl w).alloc _;have cN:n.el.length≤1048576:=fw.2.2.2.2.1;have hq:=ZdJ _ vb vo cp n.el (aT.same (aW.below.block vb aT.lt)) cN;have hmo:=h.mut_old;clear gA jr;replace fV:=Zrr fV;replace he:=Zrr he;replace hn:=Zrr hn;replace ez:=Zrr ez;replace hmo:=Zrr hmo;have iI:=aW.below
 go_enter Tryz.func103,Tryz.ntmps103
 go_wp2_with fail;have hw1s:w.heap.size<(w.alloc (.cells #[.int .i64 n.pl,.int .i64 0,.slice (some ⟨vb,vo,none⟩) n.el.length cp,.int .u64 (lo n.le),.int .u64 (hi n.le)] 101)).heap.size:=by simp
 generalize w.alloc (.cells #[.int .i64 n.pl,.int .i64 0,.slice (some ⟨vb,vo,none⟩) n.el.length cp,.int .u64 (lo n.le),.int .u64 (hi n.le)] 101)=w1 at *;obtain⟨b0,b1,b2,b3,b4,_⟩:=Zbt aC
 try go_wp2_with fail
 refine hq.mono ?_;rintro e w2 ⟨gb,gcap,gcs,rfl,sX,jC,qw,aL⟩;have ay:Below w.heap.size w w2:=iI.trans (aL.mono (by omega));have bA:=h.below ay;have aS:=(aL.block _ hw1s).trans aC;have bB:Stp [] B w B w2:=Stp.of_below ay;clear hq aC b0 b1 b2 b3 b4 n0 n1 n2 n3 n4 cn c5 fO aW iI;have hw2s:w.heap.size<w2.heap.size:=by have:=aL.size;omega
 have aY:Hid (Zim g B w n (.slice (some ⟨vb,vo,none⟩) n.el.length cp) gb l s1 0 w2):=Zrr
  ⟨B,s,n.el,l,gcs,bA,bB,(fun hc=>Nat.lt_irrefl _ (hmo.out _ hc)),(fun hc=>by have:=mV _ hc;omega),aS,jC,qw,rfl,rfl,fV.out,rfl⟩
 have hgbw:w1.heap.size≤gb:=sX
 have hgz:gb≠Zdm∧gb≠gTz:=by
  have g1:=h.pow.lt;have g2:=h.tz.lt';omega
 clear jC qw aS bA bB ay aL hmo mV aT fV sX h;go_wp2_with fail
 go_loopw [48] (fun i wr=>∃k:Nat,k≤n.el.length∧i= .int .i64 k∧Hid (Zim g B w n (.slice (some ⟨vb,vo,none⟩) n.el.length cp) gb l s1 k wr))
  (fun i _=>n.el.length - (intOf i).toNat)
 case atStart=>exact⟨0,Nat.zero_le _,rfl,aY⟩
 case round =>
  clear aY;obtain⟨k,hk,rfl,hI⟩:=hrel;obtain⟨B',sk,lc,l2,cs,iW,jH,hnm,aJ,al,jC,qw,aX,wH,fV,jQ⟩:=hI.out;clear hI;have cK:B'.sb=B.sb:=jH.sb
  by_cases dF:k<n.el.length
  ·have dq:k<lc.length:=by omega
   have eB:lc[k]=n.el[k]:=by
    have h1:=List.drop_eq_getElem_cons dq;have h2:=List.drop_eq_getElem_cons dF;rw[h1,h2]at wH;exact(List.cons.inj wH).1
   rw[List.drop_eq_getElem_cons dF]at fV;obtain⟨q,sk2,l3,hg,uk,rfl⟩:=ZhV fV;obtain⟨e0,e1⟩:=Za3 lc k dq;have mM:=qw _ _ e1;have c1:wr.cell? ⟨gb,k*2+1,none⟩=some (.int .i64 (lc[k].2:Nat)):=by simp[World.cell?,jC];simpa using mM
   rw[eB]at c1;have dU:=ih B' sk sk2 wr n.el[k].2 q iW hg;rw[cK]at dU;generalize n.el[k]=p at *;obtain⟨p1,p2⟩:=p;simp only at c1 dU hg;replace fV:=Zrr fV;replace uk:=Zrr uk;replace qw:=Zrr qw;replace wH:=Zrr wH;replace jQ:=Zrr jQ;replace eB:=Zrr eB;replace al:=Zrr al;replace jC:=Zrr jC;replace iW:=Zrr iW;clear e0 e1 mM hg;go_wp2_with fail;refine dU.mono ?_;rintro e w5 ⟨rfl,B5,gZ,bO⟩;have oa:=bO.keep jC.out (iW.out.not_mut jC.out (by simp[ZaN,Zbd]) (by simp[ZaN,ZaD])) (by simp);have oU:=bO.keep al.out hnm (by simp);have gl:=(Zrv jC.out).1;have bl:=(Zrv al.out).1
   have zI:w.heap.size∉B5.mut:=fun hc=>by
    rcases bO.new _ hc with h1|h1
    ·exact hnm h1
    ·omega
   have um:gb∉B5.eb:=fun hc=>by
    rcases bO.newe _ hc with h1|h1|h1
    ·exact aJ h1
    ·omega
    ·simp at h1
   have fz:w5.frozen? ⟨gb,k*2+1,none⟩=false:=by simp[World.frozen?,oa]
   have c15:w5.cell? ⟨gb,k*2+1,none⟩=some (.int .i64 p2):=(World.cell?_of_block (a:=⟨gb,k*2+1,none⟩) (oa.trans jC.out.symm)).trans c1
   have aA:Hid (Zim g B w n (.slice (some ⟨vb,vo,none⟩) n.el.length cp) gb l s1 (k+1) (w5.setCell ⟨gb,k*2+1,none⟩ (.int .i64 q))):=Zrr (by
    have lH:=ZmR lc k (p1,q) dq;have iP:lc[k].1=p1:=by rw[eB.out]
    have hot:∀j,j≠gb→(w5.setCell ⟨gb,k*2+1,none⟩ (.int .i64 q)).heap[j]? =w5.heap[j]?:=fun j hj=>Below.heap_setCell _ _ _ j hj
    refine⟨B5,sk2,lc.set k (p1,q),l3,_,gZ.off oa um hgz (fun j o hj _=>hot j hj),((jH.then bO).trans (Stp.of_but (X:=[gb]) (w':=w5.setCell ⟨gb,k*2+1,none⟩ (.int .i64 q)) ⟨rfl,rfl,rfl⟩ (by simp) (fun j _ hj=>hot j (by simpa using hj)))).weak (fun x hx=>?_),zI,um,(hot _ (by omega)).trans oU,Zaj oa _ _,?_,by rw[List.length_set];exact aX,?_,uk.out,?_⟩
    ·simp at hx;subst hx;exact .inr (by omega)
    ·have:=ZlX cs lc k q dq qw.out
     rw[iP]at this;exact this
    ·rw[lH.2]
     have:=congrArg (List.drop 1) wH.out;simpa [List.drop_drop] using this
    ·rw[lH.1,←jQ.out];simp)
   clear gZ bO oa oU zI um c1 dU;go_wp2_with fail;go_roundw
   case rel=>exact⟨k+1,by omega,by go_num,aA⟩
   case measure=>simp[intOf];omega
  ·obtain rfl:k=n.el.length:=by omega
   simp only[List.drop_length,Zb4,ZrJ,Prod.mk.injEq]at fV;obtain⟨rfl,rfl⟩:=fV;have wS:lc=l:=by rw[←jQ,←aX];simp
   subst wS;obtain⟨b0,b1,b2,b3,b4,_⟩:=Zbt al;have hq:=Zdl (cap:=gcap) (off:=0) iW jC qw aJ hgz (by omega) he.out;rw[cK,aX]at hq;have yh:w.heap.size≤gb:=by omega
   clear al jC qw wH jQ aX;replace iW:=Zrr iW;replace jH:=Zrr jH;go_wp2_with fail;refine hq.mono ?_;rintro e w5 ⟨rfl,B5,gZ,bO⟩;have hS:Stp [] B w B5 w5:=(jH.out.trans bO).weak (fun x hx=>.inr (by simp at hx;subst hx;exact yh));have hsb5:B5.sb=B.sb:=hS.sb;obtain⟨t,t',h1,h2⟩:=ZjS (gZ.below ((ZrE _ w5).drew)) a b;obtain⟨_,_,_,_,_,_,d5⟩:=(gZ.below ((ZrE _ w5).drew)).cells;rw[hsb5]at d5 h1 h2;obtain⟨eA,eAx,eAxB,e1,eAB,eABx,e2,eABy,e3,oA,oAx,oAxB,oAB,oABx,oABy,d1,d2,d3⟩:=h1;obtain⟨eA',eAx',eAxB',mM,eAB',eABx',pf,eABy',e3',oA',oAx',oAxB',oAB',oABx',oABy',kw,oI,mn⟩:=h2;have d1:=Zrr d1;have d2:=Zrr d2;have d3:=Zrr d3;have kw:=Zrr kw;have oI:=Zrr oI;have mn:=Zrr mn;have hS:=Zrr hS;clear gZ bO hq b0 b1 b2 b3 b4;go_wp2_with fail
   go_region_law (fail)
   all_goals
    go_wp2_with fail;go_ret
    first
     | exact⟨rfl,B5,d1.out.1,hS.out.then ((Stp.of_below (X:=[]) ((ZrE _ w5).drew)).then d1.out.2)⟩
     | exact⟨rfl,B5,d2.out.1,hS.out.then ((Stp.of_below (X:=[]) ((ZrE _ w5).drew)).then d2.out.2)⟩
     | exact⟨rfl,B5,d3.out.1,hS.out.then ((Stp.of_below (X:=[]) ((ZrE _ w5).drew)).then d3.out.2)⟩
     | exact⟨rfl,B5,kw.out.1,hS.out.then ((Stp.of_below (X:=[]) ((ZrE _ w5).drew)).then kw.out.2)⟩
     | exact⟨rfl,B5,oI.out.1,hS.out.then ((Stp.of_below (X:=[]) ((ZrE _ w5).drew)).then oI.out.2)⟩
     | exact⟨rfl,B5,mn.out.1,hS.out.then ((Stp.of_below (X:=[]) ((ZrE _ w5).drew)).then mn.out.2)⟩
theorem Zg8:∀f,ZcA (Zof f):=by
 intro f
 induction f with
 | zero=>intro B s s' w a r h he;cases he
 | succ f ih =>
   intro B s s' w a r h he;unfold Zof at he
   split at he
   ·rename_i ha
    simp only[ZrJ,Prod.mk.injEq]at he;obtain⟨rfl,rfl⟩:=he;exact Zmm h ha
   ·rename_i ha
    split at he
    ·rename_i b hb
     simp only[ZrJ,Prod.mk.injEq]at he;obtain⟨rfl,rfl⟩:=he;exact ZpP h ha hb
    ·rename_i hb
     split at he
     ·cases he
     ·rename_i n hn
      cases lG:ZhZ (Zof f) s n with
      | none=>rw[lG]at he;cases he
      | some p =>
        obtain⟨b,s2⟩:=p;rw[lG]at he;simp only[Zi1,ZrJ,Prod.mk.injEq]at he;obtain⟨rfl,rfl⟩:=he;unfold ZhZ at lG
        split at lG
        ·rename_i hl
         split at lG
         ·cases lG
         ·rename_i l s1 fV
          exact(ZpO ih h.tight (fun k hk=>by simpa using (List.mem_filter.1 hk).2) ha hb hn hl fV lG).mono (ZaF.loose (fun k hk=>(List.mem_filter.1 hk).1))
        ·rename_i hl
         exact ZpQ h ha hb hn hl lG
end Go.Proofs.YtemnmcfmabamcaaGreatDoor
