import Derived.Test.YtmnjakejhbpkoaaGreatDoorVRefChk
import Derived.Test.YtmnjakejhbpkoaaGreatDoorVLaw11
set_option linter.unusedSimpArgs false
set_option linter.unusedVariables false
set_option maxRecDepth 100000
set_option maxHeartbeats 1000000
section
namespace Go.Proofs.YtmnjakejhbpkoaaGreatDoor
open Go Go.RowKit Go.Shelf
def t3:List VN:=[⟨-1,-1,1⟩,⟨-1,-1,2⟩,⟨0,1,0⟩]
end Go.Proofs.YtmnjakejhbpkoaaGreatDoor
namespace Go.Proofs.YtmnjakejhbpkoaaGreatDoor
open Go Go.RowKit Go.Shelf
theorem Stp.behind{B B':Zas}{w w1 w2:World}{n:Nat}(hb:Below n w w1)(hm:∀k∈B.mut,n≤k)(hn:n≤w1.heap.size)(hS:Stp [] B w1 B' w2):Below n w w2∧(∀k∈B'.mut,n≤k)∧n≤w2.heap.size :=
 ⟨⟨hS.fr.os.trans hb.os,hS.fr.tape.trans hb.tape,hS.fr.output.trans hb.output,Zpp hb.size hS.fr.size,fun k hk=>(hS.fr.block k (by omega) (fun hc=>by
    rcases List.mem_append.1 hc with hc|hc
    ·have:=hm k hc;omega
    ·simp at hc)).trans (hb.block k hk)⟩,
   fun k hk=>(hS.new k hk).elim (hm k) (fun h=>by omega),Zpp hn hS.fr.size⟩
end Go.Proofs.YtmnjakejhbpkoaaGreatDoor
end
section
namespace Go.Proofs.YtmnjakejhbpkoaaGreatDoor
open Go Go.RowKit Go.Shelf
theorem Zob{B:Zas}{s:St}{w:World}{a:Nat}{n:Zaf}(h:Rep B s w)(ht:s.tree≠[])(hn:s.nodes[a]? =some n) :
  Calls Tryz.prog 60 #[.pointer (some ⟨B.sb,0,none⟩),.int .i64 a] w fun e w'=>e= .returned (.tuple #[.int .i64 n.pl,.int .i64 0])∧Below w.heap.size w w':=by
 have ha:a<s.nodes.length:=(Zpj hn).1;have dJ:Zfx s.nodes.length [(a:Int)]=0:=by simp[Zfx,ha]
 have bu:=h.small.1;replace dJ:=Zpe dJ;have aC:=(Ext.refl w).alloc (.cells #[.int .i64 a] 3);have ak:=Zpm w (.cells #[.int .i64 a] 3)
 go_enter Tryz.func60,Tryz.ntmps60
 go_wp2_with fail;generalize w.alloc (.cells #[.int .i64 a] 3)=w1 at *;have aU:=h.below aC.below;have hq:=ZcL aU ht (Zfe ak) (by simp);rw[dJ.out]at hq;clear ak;obtain⟨cap,_,_,cn,_⟩:=aU.cells;obtain⟨v,_,_,n0,_⟩:=aU.node hn;replace aU:=Zpe aU;clear h;refine hq.mono ?_;rintro e w2 ⟨rfl,rfl⟩;have d0:decide ((a:Int)<s.nodes.length)=true:=Zpv (by omega);have d1:decide (0≤(a:Int))=true:=Zpv (by omega);clear hq;go_wp2_with fail;go_ret2;exact⟨rfl,aC.below⟩
theorem Zam.below{w w':World}{b o:Nat}{t:List VN}(h:Zam w b o t)(hb:Below w.heap.size w w'):Zam w' b o t :=
 fun j u hj=>(hb.cell (Zpk w _ (h j u hj))).trans (h j u hj)
theorem Znz{t:List VN}(hc:Zad t=0){u:Nat}{y:VN}(hu:t[u]? =some y)(hl:Zaj y=true){v:Nat}(hv:y.var=v):Zd5 t v=some u:=by
 unfold Zd5;have pU:=(Zpj hu).1;have hy:t[u]=y:=(Zpj hu).2;have fp:y.left<0:=by simp only[Zaj,Zpx,ZpA]at hl;omega
 rw[List.findIdx?_eq_some_iff_getElem];refine⟨pU,?_,fun j hj=>?_⟩
 ·rw[hy];simp[fp,hv]
 ·have gT:j<t.length:=by omega
  have hjs:t[j]? =some t[j]:=Zpl gT;intro hh;simp only[Zpx,ZpA]at hh
  cases hlj:Zaj t[j]
  ·obtain⟨l,r,e1,_⟩:=L.inner_ok hc hjs hlj
   omega
  ·have:=L.leaf_var hc hjs hu hlj hl (by rw[hh.2,hv])
   omega
structure Val (s:St) (r:Nat) (φ:L.Asg→Bool):Prop where
 lt:r<s.nodes.length
 sem:∀x,L.sem s.nodes r x=φ x
theorem Val.step{s s':St}{r:Nat}{φ:L.Asg→Bool}(h:Val s r φ)(hi:L.Inv s)(hS:L.Step s s'):Val s' r φ :=
 ⟨Zpq h.lt hS.len,fun x=>by rw[hS.sem hi h.lt];exact h.sem x⟩
theorem Val.congr{s:St}{a:Nat}{φ ψ:L.Asg→Bool}(ha:Val s a φ)(h:∀x,φ x=ψ x):Val s a ψ:=⟨ha.lt,fun x=>by rw[ha.sem,h]⟩
theorem Zbd{s:St}(h:L.Inv s){i:Nat}(hi:i<s.nodes.length):L.Dep (L.Bel s.tree (s.tree.length - 1)) (L.sem s.nodes i):=by
 rcases h.kind hi with rfl|rfl|⟨h2,n,hn,_⟩
 ·intro x y _;rw[h.sem0,h.sem0]
 ·intro x y _;rw[h.sem1,h.sem1]
 ·obtain⟨P,_,hP,hd⟩:=h.place h2 hn
  exact hd.mono fun v hv=>hv.up (L.Und.root h.tree s.tree.length P hP (by omega))
structure SS (t:List VN) (B0:Zas) (w0:World) (k:Nat) (s:St) (w:World):Prop where
 held:∃B,Rep B s w∧Stp [] B0 w0 B w
 room:L.Room s k
 tree:s.tree=t
theorem SS.inv{t:List VN}{B0:Zas}{w0 w:World}{k:Nat}{s:St}(h:SS t B0 w0 k s w):L.Inv s:=h.room.inv
theorem SS.chk{t:List VN}{B0:Zas}{w0 w:World}{k:Nat}{s:St}(h:SS t B0 w0 k s w):Zad t=0:=by have:=h.inv.tree;rw[h.tree]at this;exact this
theorem SS.few{t:List VN}{B0:Zas}{w0 w:World}{k:Nat}{s:St}(h:SS t B0 w0 k s w):t.length≤11:=by have:=h.room.few;rw[h.tree]at this;exact this
theorem SS.pos{t:List VN}{B0:Zas}{w0 w:World}{k:Nat}{s:St}(h:SS t B0 w0 k s w):0<t.length:=(Zar h.chk).1
theorem SS.ne{t:List VN}{B0:Zas}{w0 w:World}{k:Nat}{s:St}(h:SS t B0 w0 k s w):s.tree≠[]:=by rw[h.tree];intro e;have:=h.pos;rw[e]at this;simp at this
theorem SS.here{t:List VN}{B0:Zas}{w0 w:World}{k:Nat}{s:St}(h:SS t B0 w0 k s w):∃B,B.sb=B0.sb∧Rep B s w∧SS t B w k s w∧Stp [] B0 w0 B w:=by
 obtain⟨B,hR,hS⟩:=h.held;exact⟨B,hS.sb,hR,⟨⟨B,hR,Stp.refl _ _ _⟩,h.room,h.tree⟩,hS⟩
def Zl0 (t:List VN)(B0:Zas)(w0:World)(k:Nat)(s:St)(φ:L.Asg→Bool)(e:Ending)(w':World):Prop :=
 ∃(r:Nat) (s':St),e= .returned (.tuple #[.int .i64 (r:Nat),.int .i64 0])∧SS t B0 w0 k s' w'∧L.Step s s'∧Val s' r φ
theorem Zdc{t:List VN}{B0 B:Zas}{w0 w:World}{k k' c:Nat}{s:St}{φ:L.Asg→Bool}{f:Option (Nat × St)}(h:SS t B0 w0 k s w)(hR:Rep B s w)(hS:Stp [] B0 w0 B w)(hk:k'+c≤k)(hd:L.Did s c φ f)
  (be:∀r s',f=some (r,s')→∀e w',ZfX r B s' w e w'→ZfX r B s' w e w'):∃r s',f=some (r,s')∧∀e w',ZfX r B s' w e w'→Zl0 t B0 w0 k' s φ e w':=by
 obtain⟨r,s',e,h1,h2,h3,h4⟩:=hd;refine⟨r,s',e,fun e' w' hr=>?_⟩;obtain⟨rfl,B',vj,hS'⟩:=hr;exact⟨r,s',rfl,⟨⟨B',vj,hS.then hS'⟩,h.room.next h1 h4 (by omega),h1.tree.trans h.tree⟩,h1,h2,h3⟩
theorem Zds{t:List VN}(hc:Zad t=0)(aY:t.length≤11):t.length - 1<t.length∧L.cn (L.nv t (t.length - 1))≤3∧L.ca (L.nv t (t.length - 1))≤118:=by
 have h0:=(Zar hc).1;have h1:=L.nv_le hc (v:=t.length - 1) (by omega);refine⟨by omega,?_,?_⟩
 ·unfold L.cn;split <;> (try split) <;> omega
 ·unfold L.ca;split <;> (try split) <;> omega
theorem ZoK{t:List VN}{B0:Zas}{w0 w:World}{k k' a b:Nat}{s:St}{φ ψ:L.Asg→Bool}(h:SS t B0 w0 k s w)(hk:k'+118≤k)(ha:Val s a φ)(hb:Val s b ψ) :
  Calls Tryz.prog 82 #[.pointer (some ⟨B0.sb,0,none⟩),.int .i64 a,.int .i64 b] w (Zl0 t B0 w0 k' s fun x=>φ x && ψ x):=by
 obtain⟨B,hR,hS⟩:=h.held;obtain⟨g1,g2,g3⟩:=Zds h.chk h.few;have hd:=L.and_spec h.chk h.few _ g1 14 (by have:=h.few;omega) s a b h.tree (h.room.less (by omega)) ha.lt hb.lt (by rw[←h.tree];exact Zbd h.inv ha.lt) (by rw[←h.tree];exact Zbd h.inv hb.lt);obtain⟨r,s',e,hr⟩:=Zdc h hR hS (k':=k') (c:=118) hk (hd.mono g3) (fun _ _ _ _ _ h=>h);rw[←hS.sb];refine(Zkh (Zdf 14) hR h.ne ha.lt hb.lt e).mono fun e w' hh=>?_
 obtain⟨r,s',h1,h2,h3,h4⟩:=hr e w' hh;exact⟨r,s',h1,h2,h3,h4.congr fun x=>by rw[ha.sem,hb.sem]⟩
theorem ZoV{t:List VN}{B0:Zas}{w0 w:World}{k k' a:Nat}{s:St}{φ:L.Asg→Bool}(h:SS t B0 w0 k s w)(hk:k'+3≤k)(ha:Val s a φ) :
  Calls Tryz.prog 39 #[.pointer (some ⟨B0.sb,0,none⟩),.int .i64 a] w (Zl0 t B0 w0 k' s fun x=>!φ x):=by
 obtain⟨B,hR,hS⟩:=h.held;obtain⟨g1,g2,g3⟩:=Zds h.chk h.few;have hd:=L.not_spec h.chk h.few _ g1 14 (by have:=h.few;omega) s a h.tree (h.room.less (by omega)) ha.lt (by rw[←h.tree];exact Zbd h.inv ha.lt);obtain⟨r,s',e,hr⟩:=Zdc h hR hS (k':=k') (c:=3) hk (hd.mono g2) (fun _ _ _ _ _ h=>h);rw[←hS.sb];refine(ZnH (ZcV 14) hR h.ne ha.lt e).mono fun e w' hh=>?_
 obtain⟨r,s',h1,h2,h3,h4⟩:=hr e w' hh;exact⟨r,s',h1,h2,h3,h4.congr fun x=>by rw[ha.sem]⟩
theorem Zo7{t:List VN}{B0:Zas}{w0 w:World}{k k' a b:Nat}{s:St}{φ ψ:L.Asg→Bool}(h:SS t B0 w0 k s w)(hk:k'+127≤k)(ha:Val s a φ)(hb:Val s b ψ) :
  Calls Tryz.prog 41 #[.pointer (some ⟨B0.sb,0,none⟩),.int .i64 a,.int .i64 b] w (Zl0 t B0 w0 k' s fun x=>φ x || ψ x):=by
 obtain⟨B,hR,hS⟩:=h.held;obtain⟨g1,g2,g3⟩:=Zds h.chk h.few;have hd:=L.or_spec (L.not_spec h.chk h.few _ g1 14 (by have:=h.few;omega)) (L.and_spec h.chk h.few _ g1 14 (by have:=h.few;omega)) s a b h.tree (h.room.less (by omega)) ha.lt hb.lt (by rw[←h.tree];exact Zbd h.inv ha.lt) (by rw[←h.tree];exact Zbd h.inv hb.lt);obtain⟨r,s',e,hr⟩:=Zdc h hR hS (k':=k') (c:=127) hk (hd.mono (by omega)) (fun _ _ _ _ _ h=>h);rw[←hS.sb];refine(Zlj (Zgq (ZcV 14) (Zdf 14)) hR h.ne ha.lt hb.lt e).mono fun e w' hh=>?_
 obtain⟨r,s',h1,h2,h3,h4⟩:=hr e w' hh;exact⟨r,s',h1,h2,h3,h4.congr fun x=>by rw[ha.sem,hb.sem]⟩
def Zbm (t:List VN)(v:Int):Prop:=∃(u:Nat) (y:VN),t[u]? =some y∧Zaj y=true∧y.var=v
def ZfK (l:Int):L.Asg→Bool:=fun x=>x (l.natAbs:Int) ==decide (0<l)
theorem Zbm.range{t:List VN}{v:Int}(h:Zbm t v):1≤v∧v≤128:=by
 obtain⟨u,y,_,h2,rfl⟩:=h;simp only[Zaj,Zpx,ZpA]at h2;exact h2.2
theorem ZoS{t:List VN}{B0:Zas}{w0 w:World}{k:Nat}{s:St}{l:Int}(h:SS t B0 w0 k s w)(hl:Zbm t (l.natAbs:Int)) :
  Calls Tryz.prog 101 #[.pointer (some ⟨B0.sb,0,none⟩),.int .i64 l] w (Zl0 t B0 w0 k s (ZfK l)):=by
 obtain⟨B,hR,hS⟩:=h.held;have hr:=hl.range;obtain⟨u,y,h1,h2,h3⟩:=hl
 have hd:L.Did s 0 (ZfK l) (Zbq s l u):=by
  obtain⟨c,s',g1,g2,g3,g4,g5⟩:=L.literal_spec h.room (l:=l) (u:=u) (y:=y) (by rw[h.tree];exact h1) h2 h3;exact⟨c,s',g1,g2,g3,g4,by omega⟩
 obtain⟨r,s',e,jT⟩:=Zdc h hR hS (k':=k) (c:=0) (by omega) hd (fun _ _ _ _ _ h=>h);rw[←hS.sb];refine(ZnD (v:=l.natAbs) (pl:=u) hR h.ne (by unfold Zfq;split <;> (try split) <;> omega) (by rw[h.tree];exact Znz h.chk h1 h2 h3) e).mono fun e w' hh=>jT e w' hh
theorem ZoC{t:List VN}{B0:Zas}{w0 w:World}{k a:Nat}{s:St}(h:SS t B0 w0 k s w)(ha:a<s.nodes.length) :
  Calls Tryz.prog 65 #[.pointer (some ⟨B0.sb,0,none⟩),.int .i64 a] w fun e w'=>e= .returned (.tuple #[.string ⟨(L.tx s.nodes a).toArray⟩,.int .i64 0])∧Below w.heap.size w w':=by
 obtain⟨B,hR,hS⟩:=h.held;have h0:=h.pos;have hf:=h.few;rw[←hS.sb];exact ZmG hR h.ne ha (L.textF_spec h.inv (by rw[h.tree];exact hf) ha (v:=s.tree.length - 1) (by rw[h.tree];omega) (Zbd h.inv ha) (f:=14) (by rw[h.tree];omega))
theorem Zof{t:List VN}{B0:Zas}{w0 w:World}{k a:Nat}{s:St}{φ:L.Asg→Bool}(h:SS t B0 w0 k s w)(ha:Val s a φ)(x:Zak) :
  Calls Tryz.prog 48 #[.pointer (some ⟨B0.sb,0,none⟩),.int .i64 a,.agg #[.int .u64 (lo x),.int .u64 (hi x)]] w fun e w'=>e= .returned (.bool (φ (L.asg x)))∧Ext w w':=by
 obtain⟨B,hR,hS⟩:=h.held;have h0:=h.pos;have hf:=h.few;rw[←hS.sb,←ha.sem];exact Zkv 14 B s w a x _ hR h.ne (L.evalF_spec h.inv x a ha.lt (s.tree.length - 1) (by rw[h.tree];omega) (Zbd h.inv ha.lt) 14 (by rw[h.tree];omega))
theorem Zla{t:List VN}(hc:Zad t=0):L.Inv (Za3 t):=by
 have hn:∀(i:Nat) (n:Zaf),2≤i→(Za3 t).nodes[i]? =some n→False:=fun i n hi hn=>by
  have:=(Zpj hn).1;simp[Za3]at this;omega
 have h0:∀(n:Zaf) (i:Nat),(Za3 t).nodes[i]? =some n→n=L.constN:=fun n i bt=>by
  have h1:=(Zpj bt).1;have h2:i<2:=by simpa [Za3] using h1
  have:i=0∨i=1:=by omega
  rcases this with rfl|rfl
  ·exact(Option.some.inj bt).symm
  ·exact(Option.some.inj bt).symm
 have hk:L.Kids (Za3 t).nodes:=fun i n bt p hp=>by rw[h0 n i bt]at hp;cases hp
 refine⟨hc,rfl,rfl,fun i n hi bt=>(hn i n hi bt).elim,fun i hi hl=>?_,(fun k i h=>by cases h),fun i n hi bt=>(hn i n hi bt).elim,(fun a b c h=>by cases h),(fun a b h=>by cases h)⟩;have h2:i<2:=by simpa [Za3] using hl
 obtain rfl:i=1:=by omega
 refine⟨?_,fun m _=>?_⟩
 ·rw[L.sem_node hk (n:=L.constN) rfl];rfl
 ·exact L.sub_le fun i hi hb=>by
   have e0:(0:Zak).getLsbD i=false:=BitVec.getLsbD_zero;have:ZaK (Za3 t).nodes 1=0:=rfl;rw[this,e0]at hb;cases hb
theorem Zk9(t:List VN):L.big (Za3 t)=0:=by
 have:∀i:Nat,L.bigAt (Za3 t) i=false:=fun i=>by
  unfold L.bigAt
  match i with
  | 0=>rfl
  | 1=>rfl
  | i+2=>rfl
 unfold L.big;rw[List.filter_eq_nil_iff.2 fun i _=>by rw[this i];simp];rfl
theorem ZoU{t:List VN}(w:World)(b o cap:Nat)(hT:ZaX w)(hP:Za7 w)(h:Zam w b o t)(hc:Zad t=0)(aY:t.length≤11) :
  Calls Tryz.prog 151 #[.slice (some ⟨b,o,none⟩) t.length cap] w fun e w'=>∃B,e= .returned (.tuple #[.pointer (some ⟨B.sb,0,none⟩),.int .i64 0])∧SS t B w' 327000 (Za3 t) w'∧Val (Za3 t) 0 (fun _=>false)∧Val (Za3 t) 1 (fun _=>true) ∧
   (∀k∈B.mut,w.heap.size≤k)∧Below w.heap.size w w':=by
 refine(Zos w b o cap hT hP h hc).mono fun e w' hh=>?_
 obtain⟨B,rfl,hR,hm,_,_,hb⟩:=hh;have hi:=Zla hc;exact⟨B,rfl,⟨⟨B,hR,Stp.refl _ _ _⟩,⟨hi,aY,by rw[Zk9];exact ZpD _⟩,rfl⟩,⟨by simp[Za3],hi.sem0⟩,⟨by simp[Za3],hi.sem1⟩,hm,hb⟩
def ZnV (n:Nat)(w:World)(ba:Option Addr)(l:List (Nat × Nat)):Prop:=l=[]∨∃g cs,ba=some ⟨g,0,none⟩∧n≤g∧w.heap[g]? =some (.cells cs ZaO (0,0))∧∀j u,(ZaL l)[j]? =some u→cs[0+j]? =some u
theorem ZeF(w:World):Calls Tryz.prog 170 #[.slice none 0 0] w fun e w'=>e= .returned (.slice none 0 0)∧w=w':=by
 refine(AnyE.slices_Clone_nil Tryz.clonePair 0 0 w).mono ?_;rintro e w' ⟨rfl,rfl⟩;exact⟨rfl,rfl⟩
theorem Zjp{w:World}{v:Value}{l:List (Nat × Nat)}(h:ZcM w v l)(hl:l.length≤1048576):Calls Tryz.prog 170 #[v] w fun e w'=>∃ba cap,e= .returned (.slice ba l.length cap)∧ZnV w.heap.size w' ba l∧Below w.heap.size w w':=by
 obtain⟨ba,c,rfl,⟨rfl,rfl,rfl⟩|⟨b,o,rfl,hr⟩⟩:=h
 ·refine(ZeF w).mono ?_
  rintro e w' ⟨rfl,rfl⟩;exact⟨none,0,rfl,.inl rfl,Zpr _ _⟩
 ·refine(ZeE w b o c l hr hl).mono ?_
  rintro e w' ⟨g,cap,cs,rfl,h1,h2,h3,h4⟩;exact⟨_,cap,rfl,.inr ⟨g,cs,rfl,h1,h2,h3⟩,h4⟩
theorem ZgO{B:Zas}{s:St}{w:World}{a:Nat}{n:Zaf}(h:Rep B s w)(ht:s.tree≠[])(hn:s.nodes[a]? =some n) :
  Calls Tryz.prog 162 #[.pointer (some ⟨B.sb,0,none⟩),.int .i64 a] w fun e w'=>∃ba cap,e= .returned (.tuple #[.slice ba n.el.length cap,.int .i64 0])∧ZnV w.heap.size w' ba n.el∧Below w.heap.size w w':=by
 have ha:a<s.nodes.length:=(Zpj hn).1;have dJ:Zfx s.nodes.length [(a:Int)]=0:=by simp[Zfx,ha]
 have bu:=h.small.1;have cG:n.el.length≤1048576:=(h.small.2 n (List.mem_of_getElem? hn)).2.2.2.2.1;replace dJ:=Zpe dJ;have aC:=(Ext.refl w).alloc (.cells #[.int .i64 a] 3);have ak:=Zpm w (.cells #[.int .i64 a] 3)
 go_enter Tryz.func162,Tryz.ntmps162
 go_wp2_with fail;generalize w.alloc (.cells #[.int .i64 a] 3)=w1 at *;have aU:=h.below aC.below;have hq:=ZcL aU ht (Zfe ak) (by simp);rw[dJ.out]at hq;clear ak;obtain⟨cap,_,_,cn,_⟩:=aU.cells;obtain⟨v,hv,_,n0,n1,n2,_⟩:=aU.node hn;have db:=Zjp hv cG;replace aU:=Zpe aU;replace hv:=Zpe hv;clear h;refine hq.mono ?_;rintro e w2 ⟨rfl,rfl⟩;have d0:decide ((a:Int)<s.nodes.length)=true:=Zpv (by omega);have d1:decide (0≤(a:Int))=true:=Zpv (by omega);clear hq;go_wp2_with fail;refine db.mono ?_;rintro e w3 ⟨ba,cp,rfl,hP,aa⟩;replace hP:=Zpe hP;go_wp2_with fail;go_ret2;refine⟨ba,cp,rfl,?_,aC.below.trans (aa.mono aC.size)⟩;rcases hP.out with e|⟨g,cs,e1,e2,e3⟩
 ·exact .inl e
 ·exact .inr ⟨g,cs,e1,Zpp aC.size e2,e3⟩
theorem Zjq{t:List VN}{B0:Zas}{w0 w:World}{k a:Nat}{s:St}{n:Zaf}(h:SS t B0 w0 k s w)(hn:s.nodes[a]? =some n) :
  Calls Tryz.prog 162 #[.pointer (some ⟨B0.sb,0,none⟩),.int .i64 a] w fun e w'=>∃ba cap,e= .returned (.tuple #[.slice ba n.el.length cap,.int .i64 0])∧ZnV w.heap.size w' ba n.el∧Below w.heap.size w w':=by
 obtain⟨B,hR,hS⟩:=h.held;rw[←hS.sb];exact ZgO hR h.ne hn
theorem Zo2{t:List VN}{B0:Zas}{w0 w:World}{k a:Nat}{s:St}{n:Zaf}(h:SS t B0 w0 k s w)(hn:s.nodes[a]? =some n) :
  Calls Tryz.prog 60 #[.pointer (some ⟨B0.sb,0,none⟩),.int .i64 a] w fun e w'=>e= .returned (.tuple #[.int .i64 n.pl,.int .i64 0])∧Below w.heap.size w w':=by
 obtain⟨B,hR,hS⟩:=h.held;rw[←hS.sb];exact Zob hR h.ne hn
def Zaz (w w':World):Prop:=w.heap.size≤w'.heap.size∧∀(k:Nat) (c:Array Value) (t:TypeId) (f:Nat × Nat),w.heap[k]? =some (.cells c t f)→t≠Za6→t≠ZaU→w'.heap[k]? =some (.cells c t f)
theorem Zaz.refl(w:World):Zaz w w:=⟨ZpD _,fun _ _ _ _ h _ _=>h⟩
theorem Zaz.trans{a b c:World}(h:Zaz a b)(k:Zaz b c):Zaz a c:=⟨Zpp h.1 k.1,fun i x t f hi h1 h2=>k.2 i x t f (h.2 i x t f hi h1 h2) h1 h2⟩
theorem Zaz.of_below{w w':World}(h:Below w.heap.size w w'):Zaz w w':=⟨h.size,fun k c t f hk _ _=>(h.block k (Zpi hk).1).trans hk⟩
theorem Zaz.get{w w':World}(h:Zaz w w'){k:Nat}{c:Array Value}{t:TypeId}{f:Nat × Nat}(hk:w.heap[k]? =some (.cells c t f))(h1:t≠Za6)(h2:t≠ZaU):w'.heap[k]? =some (.cells c t f):=h.2 k c t f hk h1 h2
structure SL (t:List VN) (sb k:Nat) (X:List Nat) (s:St) (w0 w:World):Prop where
 on:∃B,B.sb=sb∧Rep B s w∧(∀j∈B.mut,w0.heap.size≤j)∧∀x∈X,x∉B.mut∧x<w.heap.size
 room:L.Room s k
 tree:s.tree=t
 bel:Below w0.heap.size w0 w
section
variable {t:List VN}{sb k:Nat}{X:List Nat}{s:St}{w0 w:World}
theorem SL.ss(h:SL t sb k X s w0 w):∃B,B.sb=sb∧Rep B s w∧(∀j∈B.mut,w0.heap.size≤j)∧(∀x∈X,x∉B.mut∧x<w.heap.size)∧SS t B w k s w:=by
 obtain⟨B,h1,h2,h3,h4⟩:=h.on;exact⟨B,h1,h2,h3,h4,⟨⟨B,h2,Stp.refl _ _ _⟩,h.room,h.tree⟩⟩
theorem SL.inv(h:SL t sb k X s w0 w):L.Inv s:=h.room.inv
theorem SL.chk(h:SL t sb k X s w0 w):Zad t=0:=by have:=h.inv.tree;rw[h.tree]at this;exact this
theorem SL.few(h:SL t sb k X s w0 w):t.length≤11:=by have:=h.room.few;rw[h.tree]at this;exact this
theorem SL.less(h:SL t sb k X s w0 w){m:Nat}(hm:m≤k):SL t sb m X s w0 w:=⟨h.on,h.room.less hm,h.tree,h.bel⟩
theorem SL.below(h:SL t sb k X s w0 w){w':World}(hb:Below w.heap.size w w'):SL t sb k X s w0 w':=by
 obtain⟨B,h1,h2,h3,h4⟩:=h.on;exact⟨⟨B,h1,h2.below hb,h3,fun x hx=>⟨(h4 x hx).1,Zpq (h4 x hx).2 hb.size⟩⟩,h.room,h.tree,h.bel.trans (hb.mono h.bel.size)⟩
theorem SL.own(h:SL t sb k X s w0 w){w':World}(hb:Below w.heap.size w w'){x:Nat}(hx:w.heap.size≤x)(bn:x<w'.heap.size):SL t sb k (x :: X) s w0 w':=by
 obtain⟨B,h1,h2,h3,h4⟩:=(h.below hb).on;obtain⟨B0,g1,g2,g3,g4⟩:=h.on;refine⟨⟨B0,g1,g2.below hb,g3,fun y hy=>?_⟩,h.room,h.tree,h.bel.trans (hb.mono h.bel.size)⟩;rcases List.mem_cons.1 hy with rfl|hy
 ·exact⟨fun hc=>by have:=g2.mut_old y hc;omega,bn⟩
 ·exact⟨(g4 y hy).1,Zpq (g4 y hy).2 hb.size⟩
theorem SL.fewer(h:SL t sb k X s w0 w){Y:List Nat}(hY:∀y∈Y,y∈X):SL t sb k Y s w0 w:=by
 obtain⟨B,h1,h2,h3,h4⟩:=h.on;exact⟨⟨B,h1,h2,h3,fun y hy=>h4 y (hY y hy)⟩,h.room,h.tree,h.bel⟩
def Zft (t:List VN)(sb k:Nat)(X:List Nat)(s:St)(w0 w:World)(φ:L.Asg→Bool)(e:Ending)(w':World):Prop :=
 ∃(r:Nat) (s':St),e= .returned (.tuple #[.int .i64 (r:Nat),.int .i64 0])∧SL t sb k X s' w0 w'∧L.Step s s'∧Val s' r φ∧(∀x∈X,w'.heap[x]? =w.heap[x]?)∧Zaz w w'
theorem SL.step{B:Zas}{k':Nat}{s':St}{w':World}(h1:B.sb=sb)(hR:Rep B s w)(h2:∀j∈B.mut,w0.heap.size≤j)(h3:∀x∈X,x∉B.mut∧x<w.heap.size)(bD:Below w0.heap.size w0 w)(h':SS t B w k' s' w') :
  SL t sb k' X s' w0 w'∧(∀x∈X,w'.heap[x]? =w.heap[x]?)∧Zaz w w':=by
 obtain⟨B',vj,aW⟩:=h'.held;obtain⟨dx,pB,_⟩:=Stp.behind bD h2 bD.size aW;refine⟨⟨⟨B',aW.sb.trans h1,vj,pB,fun x hx=>⟨fun hc=>?_,Zpq (h3 x hx).2 aW.fr.size⟩⟩,h'.room,h'.tree,dx⟩,fun x hx=>?_,⟨aW.fr.size,fun j c ty f hj n1 n2=>aW.keep hj (hR.not_mut hj n1 n2) (fun h=>by cases h)⟩⟩
 ·rcases aW.new x hc with h4|h4
  ·exact(h3 x hx).1 h4
  ·have:=(h3 x hx).2;omega
 ·exact aW.fr.block x (h3 x hx).2 (fun hc=>(List.mem_append.1 hc).elim (h3 x hx).1 (fun h=>by cases h))
theorem SL.via{k':Nat}{φ:L.Asg→Bool}(h:SL t sb k X s w0 w){c:Nat}{ags:List Value}
  (hq:∀B,B.sb=sb→SS t B w k s w→Calls Tryz.prog c (#[.pointer (some ⟨B.sb,0,none⟩)]++ags.toArray) w (Zl0 t B w k' s φ)):Calls Tryz.prog c (#[.pointer (some ⟨sb,0,none⟩)]++ags.toArray) w (Zft t sb k' X s w0 w φ):=by
 obtain⟨B,h1,hR,h2,h3,hS⟩:=h.ss;have q:=hq B h1 hS;rw[h1]at q;refine q.mono fun e w' hh=>?_
 obtain⟨r,s',e1,e2,e3,e4⟩:=hh;obtain⟨g1,g2,g3⟩:=SL.step h1 hR h2 h3 h.bel e2;exact⟨r,s',e1,g1,e3,e4,g2,g3⟩
end
section
variable {t:List VN}{B0:Zas}{w0 w:World}{k k' a b:Nat}{s:St}{φ ψ:L.Asg→Bool}
theorem ZoJ(h:SS t B0 w0 k s w){P:Nat}(hP:P<t.length)(hk:k'+L.ca (L.nv t P)≤k)(ha:Val s a φ)(hb:Val s b ψ)(cU:L.Dep (L.Bel t P) φ)(cQ:L.Dep (L.Bel t P) ψ) :
  Calls Tryz.prog 82 #[.pointer (some ⟨B0.sb,0,none⟩),.int .i64 a,.int .i64 b] w (Zl0 t B0 w0 k' s fun x=>φ x && ψ x):=by
 obtain⟨B,hR,hS⟩:=h.held;have o9:L.Dep (L.Bel t P) (L.sem s.nodes a):=by rw[show L.sem s.nodes a=φ from funext ha.sem];exact cU
 have oa:L.Dep (L.Bel t P) (L.sem s.nodes b):=by rw[show L.sem s.nodes b=ψ from funext hb.sem];exact cQ
 have hd:=L.and_spec h.chk h.few _ hP 14 (by have:=h.few;omega) s a b h.tree (h.room.less (by omega)) ha.lt hb.lt o9 oa;obtain⟨r,s',e,hr⟩:=Zdc h hR hS (k':=k') hk hd (fun _ _ _ _ _ h=>h);rw[←hS.sb];refine(Zkh (Zdf 14) hR h.ne ha.lt hb.lt e).mono fun e w' hh=>?_
 obtain⟨r,s',h1,h2,h3,h4⟩:=hr e w' hh;exact⟨r,s',h1,h2,h3,h4.congr fun x=>by rw[ha.sem,hb.sem]⟩
theorem Zo6(h:SS t B0 w0 k s w){P:Nat}(hP:P<t.length)(hk:k'+L.co (L.nv t P)≤k)(ha:Val s a φ)(hb:Val s b ψ)(cU:L.Dep (L.Bel t P) φ)(cQ:L.Dep (L.Bel t P) ψ) :
  Calls Tryz.prog 41 #[.pointer (some ⟨B0.sb,0,none⟩),.int .i64 a,.int .i64 b] w (Zl0 t B0 w0 k' s fun x=>φ x || ψ x):=by
 obtain⟨B,hR,hS⟩:=h.held;have o9:L.Dep (L.Bel t P) (L.sem s.nodes a):=by rw[show L.sem s.nodes a=φ from funext ha.sem];exact cU
 have oa:L.Dep (L.Bel t P) (L.sem s.nodes b):=by rw[show L.sem s.nodes b=ψ from funext hb.sem];exact cQ
 have hd:=L.or_spec (L.not_spec h.chk h.few _ hP 14 (by have:=h.few;omega)) (L.and_spec h.chk h.few _ hP 14 (by have:=h.few;omega)) s a b h.tree (h.room.less (by unfold L.co at hk;omega)) ha.lt hb.lt o9 oa;obtain⟨r,s',e,hr⟩:=Zdc h hR hS (k':=k') hk hd (fun _ _ _ _ _ h=>h);rw[←hS.sb];refine(Zlj (Zgq (ZcV 14) (Zdf 14)) hR h.ne ha.lt hb.lt e).mono fun e w' hh=>?_
 obtain⟨r,s',h1,h2,h3,h4⟩:=hr e w' hh;exact⟨r,s',h1,h2,h3,h4.congr fun x=>by rw[ha.sem,hb.sem]⟩
theorem ZkX{l:Int}(hl:Zbm t (l.natAbs:Int))(hc:Zad t=0):L.Leafy t (ZfK l):=by
 obtain⟨u,y,h1,h2,h3⟩:=hl;refine⟨u,y,h1,h2,fun p q et=>?_⟩;unfold ZfK;rw[et _ ((L.Bel.leaf hc h1 h2 _).2 h3.symm)]
theorem ZnN(hc:Zad t=0)(aY:t.length≤11):3*L.cn (L.nv t (t.length - 1))+L.cl (L.nv t (t.length - 1))≤71:=by
 have h0:=(Zar hc).1;have h1:=L.nv_le hc (v:=t.length - 1) (by omega);unfold L.cn L.cl
 split <;> (try split) <;> omega
theorem Zo5(h:SS t B0 w0 k s w){l:Int}(hl:Zbm t (l.natAbs:Int))(hk:k'+71≤k)(ha:Val s a φ)(hb:Val s b (ZfK l)) :
  Calls Tryz.prog 41 #[.pointer (some ⟨B0.sb,0,none⟩),.int .i64 a,.int .i64 b] w (Zl0 t B0 w0 k' s fun x=>φ x || ZfK l x):=by
 obtain⟨B,hR,hS⟩:=h.held;obtain⟨g1,_,_⟩:=Zds h.chk h.few;have g4:=ZnN h.chk h.few
 have hd:=L.orL_spec h.chk h.few g1 (f:=14) (by have:=h.few;omega) h.tree (h.room.less (by omega)) ha.lt hb.lt (by rw[←h.tree];exact Zbd h.inv ha.lt) (by rw[←h.tree];exact Zbd h.inv hb.lt)
  (by rw[show L.sem s.nodes b=ZfK l from funext hb.sem];exact ZkX hl h.chk)
 obtain⟨r,s',e,hr⟩:=Zdc h hR hS (k':=k') (c:=71) hk (hd.mono g4) (fun _ _ _ _ _ h=>h);rw[←hS.sb];refine(Zlj (Zgq (ZcV 14) (Zdf 14)) hR h.ne ha.lt hb.lt e).mono fun e w' hh=>?_
 obtain⟨r,s',h1,h2,h3,h4⟩:=hr e w' hh;exact⟨r,s',h1,h2,h3,h4.congr fun x=>by rw[ha.sem,hb.sem]⟩
end
section
variable {t:List VN}{sb k k' a b:Nat}{X:List Nat}{s:St}{w0 w:World}{φ ψ:L.Asg→Bool}
theorem SL.and(h:SL t sb k X s w0 w)(hk:k'+118≤k)(ha:Val s a φ)(hb:Val s b ψ):Calls Tryz.prog 82 #[.pointer (some ⟨sb,0,none⟩),.int .i64 a,.int .i64 b] w (Zft t sb k' X s w0 w fun x=>φ x && ψ x) :=
 h.via (ags:=[.int .i64 a,.int .i64 b]) fun B _ hS=>ZoK hS hk ha hb
theorem SL.or(h:SL t sb k X s w0 w)(hk:k'+127≤k)(ha:Val s a φ)(hb:Val s b ψ):Calls Tryz.prog 41 #[.pointer (some ⟨sb,0,none⟩),.int .i64 a,.int .i64 b] w (Zft t sb k' X s w0 w fun x=>φ x || ψ x) :=
 h.via (ags:=[.int .i64 a,.int .i64 b]) fun B _ hS=>Zo7 hS hk ha hb
theorem SL.andP(h:SL t sb k X s w0 w){P:Nat}(hP:P<t.length)(hk:k'+L.ca (L.nv t P)≤k)(ha:Val s a φ)(hb:Val s b ψ)(cU:L.Dep (L.Bel t P) φ)(cQ:L.Dep (L.Bel t P) ψ):Calls Tryz.prog 82 #[.pointer (some ⟨sb,0,none⟩),.int .i64 a,.int .i64 b] w (Zft t sb k' X s w0 w fun x=>φ x && ψ x) :=
 h.via (ags:=[.int .i64 a,.int .i64 b]) fun B _ hS=>ZoJ hS hP hk ha hb cU cQ
theorem SL.orP(h:SL t sb k X s w0 w){P:Nat}(hP:P<t.length)(hk:k'+L.co (L.nv t P)≤k)(ha:Val s a φ)(hb:Val s b ψ)(cU:L.Dep (L.Bel t P) φ)(cQ:L.Dep (L.Bel t P) ψ):Calls Tryz.prog 41 #[.pointer (some ⟨sb,0,none⟩),.int .i64 a,.int .i64 b] w (Zft t sb k' X s w0 w fun x=>φ x || ψ x) :=
 h.via (ags:=[.int .i64 a,.int .i64 b]) fun B _ hS=>Zo6 hS hP hk ha hb cU cQ
theorem SL.orl(h:SL t sb k X s w0 w){l:Int}(hl:Zbm t (l.natAbs:Int))(hk:k'+71≤k)(ha:Val s a φ)(hb:Val s b (ZfK l)):Calls Tryz.prog 41 #[.pointer (some ⟨sb,0,none⟩),.int .i64 a,.int .i64 b] w (Zft t sb k' X s w0 w fun x=>φ x || ZfK l x) :=
 h.via (ags:=[.int .i64 a,.int .i64 b]) fun B _ hS=>Zo5 hS hl hk ha hb
theorem SL.not(h:SL t sb k X s w0 w)(hk:k'+3≤k)(ha:Val s a φ):Calls Tryz.prog 39 #[.pointer (some ⟨sb,0,none⟩),.int .i64 a] w (Zft t sb k' X s w0 w fun x=>!φ x) :=
 h.via (ags:=[.int .i64 a]) fun B _ hS=>ZoV hS hk ha
theorem SL.lit(h:SL t sb k X s w0 w){l:Int}(hl:Zbm t (l.natAbs:Int)):Calls Tryz.prog 101 #[.pointer (some ⟨sb,0,none⟩),.int .i64 l] w (Zft t sb k X s w0 w (ZfK l)) :=
 h.via (ags:=[.int .i64 l]) fun B _ hS=>ZoS hS hl
theorem SL.eval(h:SL t sb k X s w0 w)(ha:Val s a φ)(x:Zak):Calls Tryz.prog 48 #[.pointer (some ⟨sb,0,none⟩),.int .i64 a,.agg #[.int .u64 (lo x),.int .u64 (hi x)]] w fun e w'=>e= .returned (.bool (φ (L.asg x)))∧Ext w w':=by
 obtain⟨B,rfl,_,_,_,hS⟩:=h.ss;exact Zof hS ha x
theorem SL.text(h:SL t sb k X s w0 w)(ha:a<s.nodes.length):Calls Tryz.prog 65 #[.pointer (some ⟨sb,0,none⟩),.int .i64 a] w fun e w'=>e= .returned (.tuple #[.string ⟨(L.tx s.nodes a).toArray⟩,.int .i64 0])∧Below w.heap.size w w':=by
 obtain⟨B,rfl,_,_,_,hS⟩:=h.ss;exact ZoC hS ha
theorem SL.elements{n:Zaf}(h:SL t sb k X s w0 w)(hn:s.nodes[a]? =some n):Calls Tryz.prog 162 #[.pointer (some ⟨sb,0,none⟩),.int .i64 a] w fun e w'=>∃ba cap,e= .returned (.tuple #[.slice ba n.el.length cap,.int .i64 0])∧ZnV w.heap.size w' ba n.el∧Below w.heap.size w w':=by
 obtain⟨B,rfl,_,_,_,hS⟩:=h.ss;exact Zjq hS hn
theorem SL.at{n:Zaf}(h:SL t sb k X s w0 w)(hn:s.nodes[a]? =some n):Calls Tryz.prog 60 #[.pointer (some ⟨sb,0,none⟩),.int .i64 a] w fun e w'=>e= .returned (.tuple #[.int .i64 n.pl,.int .i64 0])∧Below w.heap.size w w':=by
 obtain⟨B,rfl,_,_,_,hS⟩:=h.ss;exact Zo2 hS hn
end
theorem ZoT{t:List VN}{w0 w:World}(b o cap:Nat)(bD:Below w0.heap.size w0 w)(hT:ZaX w)(hP:Za7 w)(h:Zam w b o t)(hc:Zad t=0)(aY:t.length≤11) :
  Calls Tryz.prog 151 #[.slice (some ⟨b,o,none⟩) t.length cap] w fun e w'=>∃sb,e= .returned (.tuple #[.pointer (some ⟨sb,0,none⟩),.int .i64 0])∧SL t sb 327000 [] (Za3 t) w0 w'∧Val (Za3 t) 0 (fun _=>false)∧Val (Za3 t) 1 (fun _=>true)∧Below w.heap.size w w':=by
 refine(ZoU w b o cap hT hP h hc aY).mono fun e w' hh=>?_
 obtain⟨B,e1,hS,v0,v1,hm,hb⟩:=hh;obtain⟨B',e2,hR,hS',aW⟩:=hS.here;refine⟨B.sb,e1,⟨⟨B',e2,hR,fun j hj=>?_,fun x hx=>by cases hx⟩,hS.room,hS.tree,bD.trans (hb.mono bD.size)⟩,v0,v1,hb⟩;rcases aW.new j hj with h4|h4
 ·exact Zpp bD.size (hm j h4)
 ·exact Zpp (Zpp bD.size hb.size) h4
def TabAt(w:World)(v:Value)(f:List Bool):Prop:=∃(g c:Nat) (cs:Array Value),v= .slice (some ⟨g,0,none⟩) f.length c∧w.heap[g]? =some (.cells cs 4 (0,0))∧∀j (hj:j<f.length),cs[j]? =some (.bool f[j])
theorem Znf(N:Nat)(hN:N≤65536)(w:World):(Instr.makeSlice 46 (.int .i64 (N:Int)) (.int .i64 (N:Int))).run Tryz.prog w= .ok (.slice (some ⟨w.heap.size,0,none⟩) N N) (w.alloc (.cells (madeCells #[.bool false] N) 4)) :=
 run_make_row' (P:=Tryz.prog) 46 4 (.bool false) 1 Tryz.underlying46 ZeT rfl .i64 .i64 N (by omega) (by omega) w
theorem Zmz(n:Nat)(hn:n≤30):IntKind.i64.wrap ((2:Int) ^ n)=((2 ^ n:Nat):Int):=by
 have h1:2 ^ n≤1073741824:=Zpp (Nat.pow_le_pow_right (by omega) hn) (by decide);rw[show ((2:Int) ^ n)=((2 ^ n:Nat):Int) by simp];generalize 2 ^ n=m at *;rw[IntWalk.i64_in _ (by omega)]
end Go.Proofs.YtmnjakejhbpkoaaGreatDoor
end
section
namespace Go.Proofs.YtmnjakejhbpkoaaGreatDoor
open Go Go.RowKit
theorem Zaa{P:Program}{l:List Oper}{md:Region.Mode}{Q:Exit→Act→World→Prop}{S:World→Prop}{i:Nat}{oi:Oper}{v:Value}{fuel:Nat}{listed:Array Bool}{a:Act}{w:World}(hi:l[i]? =some oi)
  (hs:Region.noSelect l.toArray=true) (hf:Region.free md l.toArray listed i=true) (hr:(Region.ready md l.toArray listed).contains i=true)
  (hQ:∀c a w,Q (.panic c) (a.put oi.dst v) w→Q (.panic c) a w) (hy:YieldsIf P l.toArray S oi v a) (hS:S w)
  (h:wpAnyH P md l.toArray Q S fuel (listed.setIfInBounds i true) (a.put oi.dst v) w):wpAnyH P md l.toArray Q S (fuel+1) listed a w :=
 wpAnyH_take (by simpa using hi) hs hf hr hQ hy hS h
theorem ZpE{P:Program}{l:List Oper}{md:Region.Mode}{Q:Exit→Act→World→Prop}{S:World→Prop}{i:Nat}{oi:Oper}{v:Value}{fuel:Nat}{listed:Array Bool}{a:Act}{w:World}(hi:l[i]? = some oi)(hc:(Region.noSelect l.toArray&&(Region.free md l.toArray listed i&&(Region.ready md l.toArray listed).contains i))=true)(hQ:∀c a w,Q (.panic c) (a.put oi.dst v) w→Q (.panic c) a w)(hy:YieldsIf P l.toArray S oi v a)(hS:S w)(h:wpAnyH P md l.toArray Q S fuel (listed.setIfInBounds i true) (a.put oi.dst v) w):wpAnyH P md l.toArray Q S (fuel+1) listed a w:=by
 rw[Bool.and_eq_true,Bool.and_eq_true] at hc
 exact Zaa hi hc.1 hc.2.1 hc.2.2 hQ hy hS h
theorem Zaw{P:Program}{l:List Oper}{md:Region.Mode}{Q:Exit→Act→World→Prop}{S:World→Prop}{fuel:Nat}{listed:Array Bool}{a:Act}{w:World}{i:Nat}{o:Oper}(ho:l[i]? =some o)
  (h:∀K':Act→World→Prop,Shut (∀a w,S w→(S w→wpAnyH P md l.toArray Q S fuel (listed.setIfInBounds i true) a w)→K' a w)→if Region.wanted o (yielded l.toArray a.tmps)=true then Oper.wp P o a w K' Q else K' (a.put o.dst undef) w)
  : AllReadyH P md l.toArray Q S fuel listed a w [i]:=AllReadyH.cons (by simpa using ho) h AllReadyH.nil
theorem Ziy{P:Program}{l:List Oper}{md:Region.Mode}{Q:Exit→Act→World→Prop}{S:World→Prop}{fuel:Nat}{listed:Array Bool}{a:Act}{w:World}{i j:Nat}{o p:Oper}(ho:l[i]? =some o)(hp:l[j]? =some p)
  (h:∀K':Act→World→Prop,Shut (∀a w,S w→(S w→wpAnyH P md l.toArray Q S fuel (listed.setIfInBounds i true) a w)→K' a w)→if Region.wanted o (yielded l.toArray a.tmps)=true then Oper.wp P o a w K' Q else K' (a.put o.dst undef) w)
  (h':∀K':Act→World→Prop,Shut (∀a w,S w→(S w→wpAnyH P md l.toArray Q S fuel (listed.setIfInBounds j true) a w)→K' a w)→if Region.wanted p (yielded l.toArray a.tmps)=true then Oper.wp P p a w K' Q else K' (a.put p.dst undef) w) :
  AllReadyH P md l.toArray Q S fuel listed a w [i,j]:=AllReadyH.cons (by simpa using ho) h (AllReadyH.cons (by simpa using hp) h' AllReadyH.nil)
end Go.Proofs.YtmnjakejhbpkoaaGreatDoor
end
