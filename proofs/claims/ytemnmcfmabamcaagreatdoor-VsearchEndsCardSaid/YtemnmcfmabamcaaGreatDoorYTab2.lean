import Derived.Test.YtemnmcfmabamcaaGreatDoorYRefChk
import Derived.Test.YtemnmcfmabamcaaGreatDoorYLaw3
set_option linter.unusedSimpArgs false
set_option linter.unusedVariables false
set_option maxRecDepth 100000
set_option maxHeartbeats 1000000
section
namespace Go.Proofs.YtemnmcfmabamcaaGreatDoor
open Go Go.RowKit Go.Shelf
def t3:List VN:=[⟨-1,-1,1⟩,⟨-1,-1,2⟩,⟨0,1,0⟩]
end Go.Proofs.YtemnmcfmabamcaaGreatDoor
namespace Go.Proofs.YtemnmcfmabamcaaGreatDoor
open Go Go.RowKit Go.Shelf
theorem Stp.behind{B B':Zar}{w w1 w2:World}{n:Nat}(hb:Below n w w1)(hm:∀k∈B.mut,n≤k)(hn:n≤w1.heap.size)(hS:Stp [] B w1 B' w2):Below n w w2∧(∀k∈B'.mut,n≤k)∧n≤w2.heap.size :=
 ⟨⟨hS.fr.os.trans hb.os,hS.fr.tape.trans hb.tape,hS.fr.output.trans hb.output,ZrC hb.size hS.fr.size,fun k hk=>(hS.fr.block k (by omega) (fun hc=>by
    rcases List.mem_append.1 hc with hc|hc
    ·have:=hm k hc;omega
    ·simp at hc)).trans (hb.block k hk)⟩,
   fun k hk=>(hS.new k hk).elim (hm k) (fun h=>by omega),ZrC hn hS.fr.size⟩
end Go.Proofs.YtemnmcfmabamcaaGreatDoor
end
section
namespace Go.Proofs.YtemnmcfmabamcaaGreatDoor
open Go Go.RowKit Go.Shelf
theorem Zqr{B:Zar}{s:St}{w:World}{a:Nat}{n:Zac}(h:Rep B s w)(ht:s.tree≠[])(hn:s.nodes[a]? =some n) :
  Calls Tryz.prog 41 #[.pointer (some ⟨B.sb,0,none⟩),.int .i64 a] w fun e w'=>e= .returned (.tuple #[.int .i64 n.pl,.int .i64 0])∧Below w.heap.size w w':=by
 have ha:a<s.nodes.length:=(Zrw hn).1;have cw:Zgn s.nodes.length [(a:Int)]=0:=by simp[Zgn,ha]
 have bN:=h.small.1;replace cw:=Zrr cw;have aK:=(Ext.refl w).alloc (.cells #[.int .i64 a] 3);have aj:=Zrz w (.cells #[.int .i64 a] 3)
 go_enter Tryz.func41,Tryz.ntmps41
 go_wp2_with fail;generalize w.alloc (.cells #[.int .i64 a] 3)=w1 at *;have aQ:=h.below aK.below;have hq:=Zdc aQ ht (ZdO aj) (by simp);rw[cw.out]at hq;clear aj;obtain⟨cap,_,_,cn,_⟩:=aQ.cells;obtain⟨v,_,_,n0,_⟩:=aQ.node hn;replace aQ:=Zrr aQ;clear h;refine hq.mono ?_;rintro e w2 ⟨rfl,rfl⟩;have d0:decide ((a:Int)<s.nodes.length)=true:=ZrI (by omega);have d1:decide (0≤(a:Int))=true:=ZrI (by omega);clear hq;go_wp2_with fail;go_ret2;exact⟨rfl,aK.below⟩
theorem Zag.below{w w':World}{b o:Nat}{t:List VN}(h:Zag w b o t)(hb:Below w.heap.size w w'):Zag w' b o t :=
 fun j u hj=>(hb.cell (Zrx w _ (h j u hj))).trans (h j u hj)
theorem ZpE{t:List VN}(hc:Zae t=0){u:Nat}{y:VN}(hu:t[u]? =some y)(hl:Zai y=true){v:Nat}(hv:y.var=v):ZeL t v=some u:=by
 unfold ZeL;have hul:=(Zrw hu).1;have hy:t[u]=y:=(Zrw hu).2;have bF:y.left<0:=by simp only[Zai,ZrK,ZrN]at hl;omega
 rw[List.findIdx?_eq_some_iff_getElem];refine⟨hul,?_,fun j hj=>?_⟩
 ·rw[hy];simp[bF,hv]
 ·have db:j<t.length:=by omega
  have yw:t[j]? =some t[j]:=Zry db;intro hh;simp only[ZrK,ZrN]at hh
  cases hlj:Zai t[j]
  ·obtain⟨l,r,e1,_⟩:=L.inner_ok hc yw hlj
   omega
  ·have:=L.leaf_var hc yw hu hlj hl (by rw[hh.2,hv])
   omega
structure Val (s:St) (r:Nat) (φ:L.Asg→Bool):Prop where
 lt:r<s.nodes.length
 sem:∀x,L.sem s.nodes r x=φ x
theorem Val.step{s s':St}{r:Nat}{φ:L.Asg→Bool}(h:Val s r φ)(hi:L.Inv s)(hS:L.Step s s'):Val s' r φ :=
 ⟨ZrD h.lt hS.len,fun x=>by rw[hS.sem hi h.lt];exact h.sem x⟩
theorem Val.congr{s:St}{a:Nat}{φ ψ:L.Asg→Bool}(ha:Val s a φ)(h:∀x,φ x=ψ x):Val s a ψ:=⟨ha.lt,fun x=>by rw[ha.sem,h]⟩
theorem Zbb{s:St}(h:L.Inv s){i:Nat}(hi:i<s.nodes.length):L.Dep (L.Bel s.tree (s.tree.length - 1)) (L.sem s.nodes i):=by
 rcases h.kind hi with rfl|rfl|⟨h2,n,hn,_⟩
 ·intro x y _;rw[h.sem0,h.sem0]
 ·intro x y _;rw[h.sem1,h.sem1]
 ·obtain⟨P,_,hP,hd⟩:=h.place h2 hn
  exact hd.mono fun v hv=>hv.up (L.Und.root h.tree s.tree.length P hP (by omega))
structure SS (t:List VN) (B0:Zar) (w0:World) (k:Nat) (s:St) (w:World):Prop where
 held:∃B,Rep B s w∧Stp [] B0 w0 B w
 room:L.Room s k
 tree:s.tree=t
theorem SS.inv{t:List VN}{B0:Zar}{w0 w:World}{k:Nat}{s:St}(h:SS t B0 w0 k s w):L.Inv s:=h.room.inv
theorem SS.chk{t:List VN}{B0:Zar}{w0 w:World}{k:Nat}{s:St}(h:SS t B0 w0 k s w):Zae t=0:=by have:=h.inv.tree;rw[h.tree]at this;exact this
theorem SS.few{t:List VN}{B0:Zar}{w0 w:World}{k:Nat}{s:St}(h:SS t B0 w0 k s w):t.length≤11:=by have:=h.room.few;rw[h.tree]at this;exact this
theorem SS.pos{t:List VN}{B0:Zar}{w0 w:World}{k:Nat}{s:St}(h:SS t B0 w0 k s w):0<t.length:=(Zam h.chk).1
theorem SS.ne{t:List VN}{B0:Zar}{w0 w:World}{k:Nat}{s:St}(h:SS t B0 w0 k s w):s.tree≠[]:=by rw[h.tree];intro e;have:=h.pos;rw[e]at this;simp at this
theorem SS.below{t:List VN}{B0:Zar}{w0 w w':World}{k:Nat}{s:St}(h:SS t B0 w0 k s w)(hb:Below w.heap.size w w'):SS t B0 w0 k s w':=by
 obtain⟨B,hR,hS⟩:=h.held;exact⟨⟨B,hR.below hb,hS.then (Stp.of_below hb)⟩,h.room,h.tree⟩
theorem SS.here{t:List VN}{B0:Zar}{w0 w:World}{k:Nat}{s:St}(h:SS t B0 w0 k s w):∃B,B.sb=B0.sb∧Rep B s w∧SS t B w k s w∧Stp [] B0 w0 B w:=by
 obtain⟨B,hR,hS⟩:=h.held;exact⟨B,hS.sb,hR,⟨⟨B,hR,Stp.refl _ _ _⟩,h.room,h.tree⟩,hS⟩
theorem SS.size{t:List VN}{B0:Zar}{w0 w:World}{k:Nat}{s:St}(h:SS t B0 w0 k s w):w0.heap.size≤w.heap.size:=by
 obtain⟨B,hR,hS⟩:=h.held;exact hS.fr.size
theorem SS.block{t:List VN}{B0:Zar}{w0 w:World}{k:Nat}{s:St}(h:SS t B0 w0 k s w){b:Nat}(hb:b<w0.heap.size)(hm:b∉B0.mut):w.heap[b]? =w0.heap[b]?:=by
 obtain⟨B,hR,hS⟩:=h.held;exact hS.fr.block b hb (fun hc=>(List.mem_append.1 hc).elim hm (fun h=>by cases h))
theorem SS.cell{t:List VN}{B0:Zar}{w0 w:World}{k:Nat}{s:St}(h:SS t B0 w0 k s w){a:Addr}{v:Value}(hc:w0.cell? a=some v)(hm:a.block∉B0.mut):w.cell? a=some v:=by
 have hl:=Zrx w0 _ hc;rw[←hc];simp only[World.cell?,h.block hl hm]
theorem SS.behind{t:List VN}{B0:Zar}{w0 w wa:World}{k n:Nat}{s:St}(h:SS t B0 w0 k s w)(hb:Below n wa w0)(hm:∀k∈B0.mut,n≤k)(hn:n≤w0.heap.size):Below n wa w:=by
 obtain⟨B,hR,hS⟩:=h.held;exact(Stp.behind hb hm hn hS).1
def ZqV (t:List VN)(B0:Zar)(w0:World)(k:Nat)(s:St)(φ:L.Asg→Bool)(e:Ending)(w':World):Prop :=
 ∃(r:Nat) (s':St),e= .returned (.tuple #[.int .i64 (r:Nat),.int .i64 0])∧SS t B0 w0 k s' w'∧L.Step s s'∧Val s' r φ
theorem Zi8{t:List VN}{B0 B:Zar}{w0 w:World}{k k' c:Nat}{s:St}{φ:L.Asg→Bool}{f:Option (Nat × St)}(h:SS t B0 w0 k s w)(hR:Rep B s w)(hS:Stp [] B0 w0 B w)(hk:k'+c≤k)(hd:L.Did s c φ f)
  (dU:∀r s',f=some (r,s')→∀e w',Zhy r B s' w e w'→Zhy r B s' w e w'):∃r s',f=some (r,s')∧∀e w',Zhy r B s' w e w'→ZqV t B0 w0 k' s φ e w':=by
 obtain⟨r,s',e,h1,h2,h3,h4⟩:=hd;refine⟨r,s',e,fun e' w' hr=>?_⟩;obtain⟨rfl,B',tm,hS'⟩:=hr;exact⟨r,s',rfl,⟨⟨B',tm,hS.then hS'⟩,h.room.next h1 h4 (by omega),h1.tree.trans h.tree⟩,h1,h2,h3⟩
theorem Zh5{t:List VN}(hc:Zae t=0)(bu:t.length≤11):t.length - 1<t.length∧L.cn (L.nv t (t.length - 1))≤3∧L.ca (L.nv t (t.length - 1))≤118:=by
 have h0:=(Zam hc).1;have h1:=L.nv_le hc (v:=t.length - 1) (by omega);refine⟨by omega,?_,?_⟩
 ·unfold L.cn;split <;> (try split) <;> omega
 ·unfold L.ca;split <;> (try split) <;> omega
def ZdI (t:List VN)(v:Int):Prop:=∃(u:Nat) (y:VN),t[u]? =some y∧Zai y=true∧y.var=v
def Zn9 (l:Int):L.Asg→Bool:=fun x=>x (l.natAbs:Int) ==decide (0<l)
theorem ZdI.range{t:List VN}{v:Int}(h:ZdI t v):1≤v∧v≤128:=by
 obtain⟨u,y,_,h2,rfl⟩:=h;simp only[Zai,ZrK,ZrN]at h2;exact h2.2
theorem Zn8{t:List VN}{B0:Zar}{w0 w:World}{k:Nat}{s:St}{l:Int}(h:SS t B0 w0 k s w)(hl:ZdI t (l.natAbs:Int)) :
  Calls Tryz.prog 32 #[.pointer (some ⟨B0.sb,0,none⟩),.int .i64 l] w (ZqV t B0 w0 k s (Zn9 l)):=by
 obtain⟨B,hR,hS⟩:=h.held;have hr:=hl.range;obtain⟨u,y,h1,h2,h3⟩:=hl
 have hd:L.Did s 0 (Zn9 l) (Zbc s l u):=by
  obtain⟨c,s',g1,g2,g3,g4,g5⟩:=L.literal_spec h.room (l:=l) (u:=u) (y:=y) (by rw[h.tree];exact h1) h2 h3;exact⟨c,s',g1,g2,g3,g4,by omega⟩
 obtain⟨r,s',e,rV⟩:=Zi8 h hR hS (k':=k) (c:=0) (by omega) hd (fun _ _ _ _ _ h=>h);rw[←hS.sb];refine(ZpF (v:=l.natAbs) (pl:=u) hR h.ne (by unfold Zo3;split <;> (try split) <;> omega) (by rw[h.tree];exact ZpE h.chk h1 h2 h3) e).mono fun e w' hh=>rV e w' hh
theorem Zo0{t:List VN}{B0:Zar}{w0 w:World}{k a:Nat}{s:St}(h:SS t B0 w0 k s w)(ha:a<s.nodes.length) :
  Calls Tryz.prog 14 #[.pointer (some ⟨B0.sb,0,none⟩),.int .i64 a] w fun e w'=>e= .returned (.tuple #[.string ⟨(L.tx s.nodes a).toArray⟩,.int .i64 0])∧Below w.heap.size w w':=by
 obtain⟨B,hR,hS⟩:=h.held;have h0:=h.pos;have hf:=h.few;rw[←hS.sb];exact ZoB hR h.ne ha (L.textF_spec h.inv (by rw[h.tree];exact hf) ha (v:=s.tree.length - 1) (by rw[h.tree];omega) (Zbb h.inv ha) (f:=14) (by rw[h.tree];omega))
theorem ZiT{t:List VN}(hc:Zae t=0):L.Inv (ZbD t):=by
 have hn:∀(i:Nat) (n:Zac),2≤i→(ZbD t).nodes[i]? =some n→False:=fun i n hi hn=>by
  have:=(Zrw hn).1;simp[ZbD]at this;omega
 have h0:∀(n:Zac) (i:Nat),(ZbD t).nodes[i]? =some n→n=L.constN:=fun n i cR=>by
  have h1:=(Zrw cR).1;have h2:i<2:=by simpa [ZbD] using h1
  have:i=0∨i=1:=by omega
  rcases this with rfl|rfl
  ·exact(Option.some.inj cR).symm
  ·exact(Option.some.inj cR).symm
 have hk:L.Kids (ZbD t).nodes:=fun i n cR p hp=>by rw[h0 n i cR]at hp;cases hp
 refine⟨hc,rfl,rfl,fun i n hi cR=>(hn i n hi cR).elim,fun i hi hl=>?_,(fun k i h=>by cases h),fun i n hi cR=>(hn i n hi cR).elim,(fun a b c h=>by cases h),(fun a b h=>by cases h)⟩;have h2:i<2:=by simpa [ZbD] using hl
 obtain rfl:i=1:=by omega
 refine⟨?_,fun m _=>?_⟩
 ·rw[L.sem_node hk (n:=L.constN) rfl];rfl
 ·exact L.sub_le fun i hi hb=>by
   have e0:(0:Zax).getLsbD i=false:=BitVec.getLsbD_zero;have:ZaG (ZbD t).nodes 1=0:=rfl;rw[this,e0]at hb;cases hb
theorem ZiS(t:List VN):L.big (ZbD t)=0:=by
 have:∀i:Nat,L.bigAt (ZbD t) i=false:=fun i=>by
  unfold L.bigAt
  match i with
  | 0=>rfl
  | 1=>rfl
  | i+2=>rfl
 unfold L.big;rw[List.filter_eq_nil_iff.2 fun i _=>by rw[this i];simp];rfl
theorem ZpN{t:List VN}(w:World)(b o cap:Nat)(hT:ZaY w)(hP:Zaz w)(h:Zag w b o t)(hc:Zae t=0)(bu:t.length≤11) :
  Calls Tryz.prog 30 #[.slice (some ⟨b,o,none⟩) t.length cap] w fun e w'=>∃B,e= .returned (.tuple #[.pointer (some ⟨B.sb,0,none⟩),.int .i64 0])∧SS t B w' 300000 (ZbD t) w'∧Val (ZbD t) 0 (fun _=>false)∧Val (ZbD t) 1 (fun _=>true) ∧
   (∀k∈B.mut,w.heap.size≤k)∧Below w.heap.size w w':=by
 refine(ZqE w b o cap hT hP h hc).mono fun e w' hh=>?_
 obtain⟨B,rfl,hR,hm,_,_,hb⟩:=hh;have hi:=ZiT hc;exact⟨B,rfl,⟨⟨B,hR,Stp.refl _ _ _⟩,⟨hi,bu,by rw[ZiS];exact ZrQ _⟩,rfl⟩,⟨by simp[ZbD],hi.sem0⟩,⟨by simp[ZbD],hi.sem1⟩,hm,hb⟩
end Go.Proofs.YtemnmcfmabamcaaGreatDoor
end
section
namespace Go.Proofs.YtemnmcfmabamcaaGreatDoor
open Go Go.RowKit Go.Shelf
def SlB (w:World)(v:Value)(l:List Bool):Prop:=∃b o c,v= .slice (some ⟨b,o,none⟩) l.length c∧b<w.heap.size∧∀j (hj:j<l.length),w.cell? ⟨b,o+j,none⟩=some (.bool l[j])
theorem SlB.below{w w':World}{v:Value}{l:List Bool}(h:SlB w v l)(hb:Below w.heap.size w w'):SlB w' v l:=by
 obtain⟨b,o,c,rfl,hl,hc⟩:=h;exact⟨b,o,c,rfl,ZrD hl hb.size,fun j hj=>(hb.cell hl).trans (hc j hj)⟩
def Zhz (l:List Bool)(w:World)(e:Ending)(w':World):Prop:=∃(g c:Nat) (cs:Array Value),e= .returned (.slice (some ⟨g,0,none⟩) l.length c)∧w.heap.size≤g∧w'.heap[g]? =some (.cells cs 4 (0,0))∧(∀j (hj:j<l.length),cs[j]? =some (.bool l[j]))∧Below w.heap.size w w'
theorem Zm3{l:List Bool}{w':World}{g c:Nat}{cs:Array Value}(h:w'.heap[g]? =some (.cells cs 4 (0,0)))(hc:∀j (hj:j<l.length),cs[j]? =some (.bool l[j])):SlB w' (.slice (some ⟨g,0,none⟩) l.length c) l :=
 ⟨g,0,c,rfl,(Zrv h).1,fun j hj=>by rw[Nat.zero_add];simp[World.cell?,h,hc j hj]⟩
def TabAt(w:World)(v:Value)(f:List Bool):Prop:=∃(g c:Nat) (cs:Array Value),v= .slice (some ⟨g,0,none⟩) f.length c∧w.heap[g]? =some (.cells cs 4 (0,0))∧∀j (hj:j<f.length),cs[j]? =some (.bool f[j])
theorem TabAt.slB{w:World}{v:Value}{f:List Bool}(h:TabAt w v f):SlB w v f:=by
 obtain⟨g,c,cs,rfl,hg,hc⟩:=h;exact Zm3 hg hc
theorem TabAt.calm{w w':World}{v:Value}{f:List Bool}(h:TabAt w v f)(hs:∀(g:Nat) (cs:Array Value),w.heap[g]? =some (.cells cs 4 (0,0))→w'.heap[g]? =w.heap[g]?):TabAt w' v f:=by
 obtain⟨g,c,cs,rfl,hg,hc⟩:=h;exact⟨g,c,cs,rfl,(hs g cs hg).trans hg,hc⟩
theorem TabAt.below{w w':World}{v:Value}{f:List Bool}(h:TabAt w v f)(hb:Below w.heap.size w w'):TabAt w' v f :=
 h.calm fun g cs hg=>hb.block g (Zrv hg).1
def Zdz (w:World)(q N:Nat)(g:Nat→Bool)(k:Nat)(wr:World):Prop:=w.heap.size≤q∧Below w.heap.size w wr∧∃cs:Array Value,wr.heap[q]? =some (.cells cs 4 (0,0))∧N≤cs.size∧∀j,j<N→j<k→cs[j]? =some (.bool (g j))
theorem Zdz.init(w:World)(N:Nat)(g:Nat→Bool):Zdz w w.heap.size N g 0 (w.alloc (.cells (madeCells #[.bool false] N) 4)) :=
 ⟨ZrQ _,(ZrE _ _).alloc (ZrQ _) _,_,Zrz _ _,by simp[madeCells],fun j _ h=>by omega⟩
theorem Zdz.cell{w wr:World}{q N:Nat}{g:Nat→Bool}{k:Nat}(h:Zdz w q N g k wr)(hk:k<N):(∃u,wr.cell? ⟨q,k,none⟩=some u)∧wr.frozen? ⟨q,k,none⟩=false:=by
 obtain⟨_,_,cs,h1,h2,_⟩:=h;exact⟨⟨cs[k]'(by omega),by simp[World.cell?,h1]⟩,by simp[World.frozen?,h1]⟩
theorem Zdz.set{w wr:World}{q N:Nat}{g:Nat→Bool}{k:Nat}(h:Zdz w q N g k wr)(hk:k<N):Zdz w q N g (k+1) (wr.setCell ⟨q,k,none⟩ (.bool (g k))):=by
 obtain⟨hq,h0,cs,h1,h2,h3⟩:=h;refine⟨hq,h0.setCell hq _,_,Zaj h1 _ _,by simpa using h2,fun j hj yu=>?_⟩;rw[Array.getElem?_setIfInBounds]
 by_cases e:k=j
 ·subst e;rw[if_pos rfl,if_pos (by omega)]
 ·rw[if_neg e];exact h3 j hj (by omega)
def ZcV (N:Nat)(g:Nat→Bool):List Bool:=(List.range N).map g
theorem Za0(N:Nat)(g:Nat→Bool):(ZcV N g).length=N:=by simp[ZcV]
theorem Zeb(N:Nat)(g:Nat→Bool)(j:Nat)(hj:j<(ZcV N g).length):(ZcV N g)[j]=g j:=by simp[ZcV]
theorem Zdz.done{w wr:World}{q N:Nat}{g:Nat→Bool}(h:Zdz w q N g N wr)(c:Nat):Zhz (ZcV N g) w (.returned (.slice (some ⟨q,0,none⟩) N c)) wr:=by
 obtain⟨hq,h0,cs,h1,h2,h3⟩:=h;refine⟨q,c,cs,by rw[Za0],hq,h1,fun j hj=>?_,h0⟩;have ke:j<N:=by rw[Za0]at hj;exact hj
 rw[Zeb];exact h3 j ke ke
theorem Zlz(N:Nat)(hN:N≤65536)(w:World):(Instr.makeSlice 40 (.int .i64 (N:Int)) (.int .i64 (N:Int))).run Tryz.prog w= .ok (.slice (some ⟨w.heap.size,0,none⟩) N N) (w.alloc (.cells (madeCells #[.bool false] N) 4)) :=
 run_make_row' (P:=Tryz.prog) 40 4 (.bool false) 1 Tryz.underlying40 ZhQ rfl .i64 .i64 N (by omega) (by omega) w
theorem ZjX(n:Nat)(hn:n≤30):IntKind.i64.wrap ((2:Int) ^ n)=((2 ^ n:Nat):Int):=by
 have h1:2 ^ n≤1073741824:=ZrC (Nat.pow_le_pow_right (by omega) hn) (by decide);rw[show ((2:Int) ^ n)=((2 ^ n:Nat):Int) by simp];generalize 2 ^ n=m at *;rw[IntWalk.i64_in _ (by omega)]
theorem ZbW{n:Nat}(hn:n≤6):2 ^ n≤64:=ZrC (Nat.pow_le_pow_right (by omega) hn) (by decide)
theorem Zly(n k:Nat)(hk:k<n)(hn:n≤30)(w:World):Calls Tryz.prog 110 #[.int .i64 n,.int .i64 k] w fun e w'=>e= .returned (.int .i64 ((2 ^ (n - 1 - k):Nat):Int))∧w=w':=by
 have hw:=ZjX (n - 1 - k) (by omega);have e1:(n:Int) - 1 - (k:Int)=((n - 1 - k:Nat):Int):=by omega
 generalize hm:2 ^ (n - 1 - k)=M at *
 go_enter Tryz.func110,Tryz.ntmps110
 go_wp2_with fail;go_ret
 first
  | exact⟨rfl,rfl⟩
  | exact⟨by rw[e1];simp[hw],rfl⟩
theorem ZlH(n:Nat)(hn:n≤6)(b:Bool)(w:World):Calls Tryz.prog 46 #[.int .i64 n,.bool b] w (Zhz (ZcV (2 ^ n) fun _=>b) w):=by
 have hw:=ZjX n (by omega);have hN:=ZbW hn;have iO:=Zlz (2 ^ n) (by omega);have h0:Hid (Zdz w w.heap.size (2 ^ n) (fun _=>b) 0 (w.alloc (.cells (madeCells #[.bool false] (2 ^ n)) 4))):=Zrr (Zdz.init _ _ _);generalize sM:2 ^ n=N at *;replace sM:=Zrr sM
 go_enter Tryz.func46,Tryz.ntmps46
 go_wp2_with fail;generalize w.alloc (.cells (madeCells #[.bool false] N) 4)=w1 at *
 go_loopw [6] (fun iv wr=>∃i:Nat,i≤N∧iv= .int .i64 i∧Hid (Zdz w w.heap.size N (fun _=>b) i wr)) (fun iv _=>N - (intOf iv).toNat)
 case atStart=>exact⟨0,Nat.zero_le _,rfl,h0⟩
 case round =>
  clear h0;obtain⟨i,hi,rfl,hI⟩:=hrel
  by_cases aD:i<N
  ·obtain⟨⟨u,y1⟩,y2⟩:=hI.out.cell aD
   have aA:Hid (Zdz w w.heap.size N (fun _=>b) (i+1) (wr.setCell ⟨w.heap.size,i,none⟩ (.bool b))):=Zrr (hI.out.set aD);go_wp2_with fail;go_roundw
   case rel=>exact⟨i+1,by omega,by go_num,aA⟩
   case measure=>simp[intOf];omega
  ·obtain rfl:i=N:=by omega
   have aZ:=hI.out.done i;replace aZ:=Zrr aZ;go_wp2_with fail;go_ret;exact aZ.out
theorem ZgV{l:List Bool}{i:Nat}(h:i<l.length):l.getD i false=l[i]:=by rw[ZrG,Zry h];rfl
theorem Zbk{N:Nat}{f g:Nat→Bool}(h:∀i,i<N→f i=g i):ZcV N f=ZcV N g:=by
 unfold ZcV;exact List.map_congr_left fun i hi=>h i (List.mem_range.1 hi)
theorem ZfY{N:Nat}{f:Nat→Bool}{i:Nat}(hi:i<N):(ZcV N f).getD i false=f i:=by
 rw[ZrG,Zry (by rw[Za0];exact hi),Option.getD_some,Zeb]
theorem ZfZ{w:World}{v u:Value}{l m:List Bool}(h:SlB w v l)(k:SlB w u m)(hm:m.length=l.length)(hl:l.length≤65536):Calls Tryz.prog 52 #[v,u] w fun e w'=>e= .returned (.bool (decide (l=m)))∧Below w.heap.size w w':=by
 obtain⟨b,o,c,rfl,hb,hc⟩:=h;obtain⟨b2,o2,c2,rfl,aL,fM⟩:=k;rw[hm];replace hc:=Zrr hc;replace fM:=Zrr fM;replace hm:=Zrr hm
 go_enter Tryz.func52,Tryz.ntmps52
 go_wp2_with fail
 go_loopw [5] (fun iv wr=>∃i:Nat,i≤l.length∧iv= .int .i64 i∧Hid (Below w.heap.size w wr)∧Hid (∀j,j<i→l[j]? =m[j]?)) (fun iv _=>l.length - (intOf iv).toNat)
 case atStart=>exact⟨0,Nat.zero_le _,rfl,Zrr (ZrE _ _),Zrr fun j hj=>by omega⟩
 case round =>
  obtain⟨i,hi,rfl,hB,hE⟩:=hrel
  by_cases aD:i<l.length
  ·have zA:i<m.length:=by have:=hm.out;omega
   have F:Hid (∀wq,Ext wr wq→wq.cell? ⟨b,o+i,none⟩=some (.bool l[i])∧wq.cell? ⟨b2,o2+i,none⟩=some (.bool m[i])):=Zrr fun wq hq =>
    ⟨(World.cell?_of_block (a:=⟨b,o+i,none⟩) (hq.below.block b (ZrD hb hB.out.size))).trans ((hB.out.cell (p:=⟨b,o+i,none⟩) hb).trans (hc.out i aD)),
      (World.cell?_of_block (a:=⟨b2,o2+i,none⟩) (hq.below.block b2 (ZrD aL hB.out.size))).trans ((hB.out.cell (p:=⟨b2,o2+i,none⟩) aL).trans (fM.out i zA))⟩
   have gl:(0:Int)≤i:=by omega
   have oJ:(i:Int)<l.length:=by omega
   by_cases e:l[i]=m[i]
   ·have aA:Hid (∀j,j<i+1→l[j]? =m[j]?):=Zrr fun j hj=>by
     rcases Nat.lt_or_ge j i with h1|h1
     ·exact hE.out j h1
     ·obtain rfl:j=i:=by omega
      rw[Zry aD,Zry zA,e]
    generalize l[i]=x at *;generalize m[i]=y at *;subst e
    cases x
    ·go_wp2_with fail
     (refine Zaf (by kernel_rfl) (by kernel_rfl) ?_
      repeat (refine wpQuiet_step (fun K hK=>?_)
              go_simp
              first
               | (refine hK _ ?_;clear hK K)
               | (replace hK:=Zrr hK
                  apply Exists.intro
                  refine⟨fun wq hq=>?_,hK.out _ ?_⟩
                  ·(obtain⟨f1,f2⟩:=F.out wq hq)
                   go_simp
                   first
                    | done
                    | rfl
                    | exact⟨rfl,rfl⟩
                    | fail
                  clear hK K))
      refine wpQuiet_nil ?_)
     intro w5 lJ;go_wp2_with fail;go_roundw
     case rel=>exact⟨i+1,by omega,by go_num,Zrr (hB.out.trans (lJ.below.mono hB.out.size)),aA⟩
     case measure=>simp[intOf];omega
    ·go_wp2_with fail
     (refine Zaf (by kernel_rfl) (by kernel_rfl) ?_
      repeat (refine wpQuiet_step (fun K hK=>?_)
              go_simp
              first
               | (refine hK _ ?_;clear hK K)
               | (replace hK:=Zrr hK
                  apply Exists.intro
                  refine⟨fun wq hq=>?_,hK.out _ ?_⟩
                  ·(obtain⟨f1,f2⟩:=F.out wq hq)
                   go_simp
                   first
                    | done
                    | rfl
                    | exact⟨rfl,rfl⟩
                    | fail
                  clear hK K))
      refine wpQuiet_nil ?_)
     intro w5 lJ;go_wp2_with fail;go_roundw
     case rel=>exact⟨i+1,by omega,by go_num,Zrr (hB.out.trans (lJ.below.mono hB.out.size)),aA⟩
     case measure=>simp[intOf];omega
   ·have aJ:Hid (decide (l=m)=false):=Zrr (ZrH fun h=>e (by subst h;rfl))
    generalize l[i]=x at *;generalize m[i]=y at *
    cases x
    ·cases y
     ·exact absurd rfl e
     ·clear e
      go_wp2_with fail
      (refine Zaf (by kernel_rfl) (by kernel_rfl) ?_
       repeat (refine wpQuiet_step (fun K hK=>?_)
               go_simp
               first
                | (refine hK _ ?_;clear hK K)
                | (replace hK:=Zrr hK
                   apply Exists.intro
                   refine⟨fun wq hq=>?_,hK.out _ ?_⟩
                   ·(obtain⟨f1,f2⟩:=F.out wq hq)
                    go_simp
                    first
                     | done
                     | rfl
                     | exact⟨rfl,rfl⟩
                     | fail
                   clear hK K))
       refine wpQuiet_nil ?_)
      intro w5 lJ;go_wp2_with fail;go_ret;exact⟨by rw[aJ.out];rfl,hB.out.trans (lJ.below.mono hB.out.size)⟩
    ·cases y
     ·clear e
      go_wp2_with fail
      (refine Zaf (by kernel_rfl) (by kernel_rfl) ?_
       repeat (refine wpQuiet_step (fun K hK=>?_)
               go_simp
               first
                | (refine hK _ ?_;clear hK K)
                | (replace hK:=Zrr hK
                   apply Exists.intro
                   refine⟨fun wq hq=>?_,hK.out _ ?_⟩
                   ·(obtain⟨f1,f2⟩:=F.out wq hq)
                    go_simp
                    first
                     | done
                     | rfl
                     | exact⟨rfl,rfl⟩
                     | fail
                   clear hK K))
       refine wpQuiet_nil ?_)
      intro w5 lJ;go_wp2_with fail;go_ret;exact⟨by rw[aJ.out];rfl,hB.out.trans (lJ.below.mono hB.out.size)⟩
     ·exact absurd rfl e
  ·obtain rfl:i=l.length:=by omega
   have gS:=hm.out
   have p7:Hid (decide (l=m)=true):=Zrr (ZrI (List.ext_getElem? fun j=>by
    by_cases hj:j<l.length
    ·exact hE.out j hj
    ·rw[List.getElem?_eq_none (by omega),List.getElem?_eq_none (by omega)]))
   clear gS;go_wp2_with fail;go_ret;exact⟨by rw[p7.out];rfl,hB.out⟩
theorem ZhH(y z:Nat)(hy:y<9223372036854775808)(hz:z<9223372036854775808):bits BinOp.and IntKind.i64 (y:Int) (z:Int)=((y &&& z:Nat):Int):=by
 have aD:y &&& z<9223372036854775808:=Nat.lt_of_le_of_lt Nat.and_le_left hy
 show IntKind.i64.wrap (((BitVec.ofInt 64 (y:Int) &&& BitVec.ofInt 64 (z:Int):BitVec 64).toNat:Nat):Int)=_
 rw[show ((BitVec.ofInt 64 (y:Int) &&& BitVec.ofInt 64 (z:Int)).toNat)=y &&& z from by
  rw[BitVec.toNat_and,BitVec.ofInt_natCast,BitVec.ofInt_natCast,BitVec.toNat_ofNat,BitVec.toNat_ofNat,Nat.mod_eq_of_lt (by omega),Nat.mod_eq_of_lt (by omega)]]
 rw[IntWalk.i64_in _ (by omega)]
end Go.Proofs.YtemnmcfmabamcaaGreatDoor
namespace Go.Proofs.YtemnmcfmabamcaaGreatDoor
open Go Go.RowKit Go.Shelf
def ZjI (l:List Int)(x:L.Asg):Nat→Nat
 | 0=>0
 | k+1=>ZjI l x k+(if x (l.getD k 0)=true then 2 ^ (l.length - 1 - k) else 0)
def ZeK (l:List Int)(x:L.Asg):Nat:=ZjI l x l.length
theorem ZgX(l:List Int)(x:L.Asg):∀k,k≤l.length→∃m,ZjI l x k=2 ^ (l.length - k)*m∧m<2 ^ k∧∀j,j<k→m.testBit (k - 1 - j)=x (l.getD j 0)
 | 0,_=>⟨0,by simp[ZjI],by simp,fun j h=>by omega⟩
 | k+1,h=>by
   obtain⟨m,e,hm,hb⟩:=ZgX l x k (by omega)
   have hp:2 ^ (l.length - k)=2 ^ (l.length - (k+1))*2:=by
    rw[←Nat.pow_succ];congr 1;omega
   have hq:l.length - 1 - k=l.length - (k+1):=by omega
   refine⟨2*m+(x (l.getD k 0)).toNat,?_,?_,fun j hj=>?_⟩
   ·rw[ZjI,e,hp,hq,Nat.mul_add,Nat.mul_assoc]
    cases x (l.getD k 0) <;> simp
   ·have:(x (l.getD k 0)).toNat≤1:=by cases x (l.getD k 0) <;> simp
    rw[Nat.pow_succ];omega
   ·rcases Nat.lt_or_eq_of_le (Nat.le_of_lt_succ hj) with hj|rfl
    ·rw[show k+1 - 1 - j=(k - 1 - j)+1 by omega,Nat.testBit_succ,show (2*m+(x (l.getD k 0)).toNat) / 2=m from by
      have:(x (l.getD k 0)).toNat≤1:=by cases x (l.getD k 0) <;> simp
      omega]
     exact hb j hj
    ·rw[show j+1 - 1 - j=0 by omega,Nat.testBit_zero]
     cases x (l.getD j 0)
     ·simp
     ·simp
theorem ZcE(l:List Int)(x:L.Asg):ZeK l x<2 ^ l.length:=by
 obtain⟨m,e,hm,_⟩:=ZgX l x l.length (ZrQ _);rw[ZeK,e,Nat.sub_self,Nat.pow_zero,Nat.one_mul];exact hm
theorem ZbF(l:List Int)(x:L.Asg){j:Nat}(hj:j<l.length):(ZeK l x).testBit (l.length - 1 - j)=x l[j]:=by
 obtain⟨m,e,_,hb⟩:=ZgX l x l.length (ZrQ _);rw[ZeK,e,Nat.sub_self,Nat.pow_zero,Nat.one_mul,hb j hj,ZrG,Zry hj];rfl
theorem ZlZ(l:List Int)(x:L.Asg)(k:Nat)(hk:k≤l.length):ZjI l x k<2 ^ l.length:=by
 obtain⟨m,e,hm,_⟩:=ZgX l x k hk;rw[e]
 calc 2 ^ (l.length - k)*m<2 ^ (l.length - k)*2 ^ k:=Nat.mul_lt_mul_of_pos_left hm (Nat.pos_of_ne_zero (by simp))
  _=2 ^ l.length:=by rw[←Nat.pow_add];congr 1;omega
structure IsTab (l:List Int) (φ:L.Asg→Bool) (f:List Bool):Prop where
 len:f.length=2 ^ l.length
 says:∀x,f.getD (ZeK l x) false=φ x
theorem Zl2{w:World}{vl:Value}{l:List Int}(hv:SlI w vl l)(aD:∃n,n=l.length∧n≤6)(x:Zax) :
  Calls Tryz.prog 85 #[vl,ZbU x] w fun e w'=>e= .returned (.int .i64 ((ZeK l (L.asg x):Nat):Int))∧Below w.heap.size w w':=by
 obtain⟨n,hn,lE⟩:=aD;obtain⟨ba,c,rfl,hc⟩:=hv;rw[←hn]
 have aN:Hid (∀k,k<n→∃b o,ba=some ⟨b,o,none⟩∧b<w.heap.size∧w.cell? ⟨b,o+k,none⟩=some (.int .i64 (l.getD k 0))):=Zrr fun k hk=>by
  rcases hc with ⟨_,rfl,_⟩|⟨b,o,e,h⟩
  ·simp at hn;omega
  ·refine⟨b,o,e,?_,?_⟩
   ·exact Zrx w _ (h k (by omega))
   ·rw[ZrG,Zry (by omega)];exact h k (by omega)
 clear hc;replace hn:=Zrr hn;have aC:=Zrz w (.cells #[.int .u64 (lo x),.int .u64 (hi x)] 82);have aK:=(ZrE w.heap.size w).alloc (ZrQ _) (.cells #[.int .u64 (lo x),.int .u64 (hi x)] 82);have h0:Hid ((w.alloc (.cells #[.int .u64 (lo x),.int .u64 (hi x)] 82)).heap[w.heap.size]? =some (.cells #[.int .u64 (lo x),.int .u64 (hi x)] 82 (0,0))∧Below w.heap.size w (w.alloc (.cells #[.int .u64 (lo x),.int .u64 (hi x)] 82))∧w.heap.size<(w.alloc (.cells #[.int .u64 (lo x),.int .u64 (hi x)] 82)).heap.size):=Zrr ⟨aC,aK,by simp⟩;clear aC aK;unfold ZbU
 go_enter Tryz.func85,Tryz.ntmps85
 go_wp2_with fail;generalize w.alloc (.cells #[.int .u64 (lo x),.int .u64 (hi x)] 82)=w1 at *
 go_loopw [5,6] (fun v i wr=>∃k:Nat,k≤n∧i= .int .i64 (k:Int)∧v= .int .i64 ((ZjI l (L.asg x) k:Nat):Int)∧Hid (wr.heap[w.heap.size]? =some (.cells #[.int .u64 (lo x),.int .u64 (hi x)] 82 (0,0))∧Below w.heap.size w wr∧w.heap.size<wr.heap.size)) (fun _ i _=>n - (intOf i).toNat)
 case atStart=>exact⟨0,by omega,rfl,rfl,h0⟩
 case round =>
  clear h0;obtain⟨k,hk,rfl,rfl,hI⟩:=hrel;obtain⟨hb,hB,ac⟩:=hI.out;clear hI
  by_cases aD:k<n
  ·have dlt:decide ((k:Int)<(n:Int))=true:=ZrI (by omega)
   obtain⟨b,o,rfl,dv,hz⟩:=aN.out k aD;have iz:=(hB.cell dv).trans hz
   have F1:∀w',Ext wr w'→w'.cell? ⟨w.heap.size,0,none⟩=some (.int .u64 (lo x))∧w'.cell? ⟨w.heap.size,1,none⟩=some (.int .u64 (hi x))∧w'.cell? ⟨b,o+k,none⟩=some (.int .i64 (l.getD k 0)) :=
    fun w' fI=>⟨fI.cell (Zah hb).1,fI.cell (Zah hb).2,fI.cell iz⟩
   have ym:Hid (∀w',Calls Tryz.prog 111 #[.agg #[.int .u64 (lo x),.int .u64 (hi x)],.int .i64 (l.getD k 0)] w' fun e w''=>e= .returned (.bool (L.asg x (l.getD k 0)))∧Ext w' w''):=Zrr fun w'=>Zdu x (l.getD k 0) w'
   have eN:ZjI l (L.asg x) (k+1)=ZjI l (L.asg x) k+(if L.asg x (l.getD k 0)=true then 2 ^ (n - 1 - k) else 0):=by rw[hn.out];rfl
   have fE:ZjI l (L.asg x) k<2 ^ n:=by rw[hn.out];exact ZlZ l (L.asg x) k (by rw[←hn.out];omega)
   have ug:ZjI l (L.asg x) (k+1)<2 ^ n:=by rw[hn.out];exact ZlZ l (L.asg x) (k+1) (by rw[←hn.out];omega)
   have rQ:=ZbW lE;have jg:=fun w'=>Zly n k aD (by omega) w'
   generalize mW:ZjI l (L.asg x) (k+1)=nx at *;replace mW:=Zrr mW;generalize ZjI l (L.asg x) k=ix at *;generalize 2 ^ n=pn at *;generalize 2 ^ (n - 1 - k)=pk at *;replace F1:=Zrr F1;replace jg:=Zrr jg;replace eN:=Zrr eN;replace hb:=Zrr hb;clear iz hz;generalize l.getD k 0=z at *;generalize L.asg x z=φz at *;go_wp2_with fail
   (refine Zaf (by kernel_rfl) (by kernel_rfl) ?_
    repeat (refine wpQuiet_step (fun K hK=>?_)
            go_simp
            first
             | (refine hK _ ?_;clear hK K)
             | (replace hK:=Zrr hK
                apply Exists.intro
                refine⟨fun wq hq=>?_,hK.out _ ?_⟩
                ·(obtain⟨f1,f2,f3⟩:=F1.out wq hq)
                 go_simp
                 first
                  | done
                  | rfl
                  | exact⟨rfl,rfl⟩
                  | (refine(ym.out _).mono ?_;rintro e w' ⟨rfl,hb⟩;exact⟨rfl,hq.trans hb⟩)
                clear hK K))
    refine wpQuiet_nil ?_)
   intro w2 bS;clear F1 ym;have h2:Hid (w2.heap[w.heap.size]? =some (.cells #[.int .u64 (lo x),.int .u64 (hi x)] 82 (0,0))∧Below w.heap.size w w2∧w.heap.size<w2.heap.size):=Zrr ⟨(bS.below.block _ (by omega)).trans hb.out,hB.trans (bS.below.mono (by omega)),by have:=bS.size;omega⟩
   cases φz
   ·have ow:=eN.out
    simp only[Bool.false_eq_true,if_false,Nat.add_zero]at ow;go_wp2_with fail;go_roundw
    case rel=>exact⟨k+1,by omega,by go_num,by rw[mW.out,ow],h2⟩
    case measure=>simp[intOf];omega
   ·have ow:=eN.out
    simp only[if_true]at ow;go_wp2_with fail;refine(jg.out _).mono ?_;rintro e w3 ⟨rfl,rfl⟩;go_wp2_with fail;go_roundw
    case rel=>exact⟨k+1,by omega,by go_num,by rw[mW.out,ow];go_num,h2⟩
    case measure=>simp[intOf];omega
  ·obtain rfl:k=n:=by omega
   clear hk aD;have he:Hid (ZeK l (L.asg x)=ZjI l (L.asg x) k):=Zrr (by rw[ZeK,←hn.out]);replace hb:=Zrr hb;go_wp2_with fail;go_ret;exact⟨by rw[he.out];rfl,hB⟩
end Go.Proofs.YtemnmcfmabamcaaGreatDoor
end
