import Derived.Test.YtmnjakejhbpkoaaGreatDoorVMake
set_option linter.unusedSimpArgs false
set_option linter.unusedVariables false
set_option maxRecDepth 100000
set_option maxHeartbeats 8000000
namespace Go.Proofs.YtmnjakejhbpkoaaGreatDoor
open Go Go.RowKit Go.Shelf
def ZnX (x y a b:Nat):Prop:=(y<x∧a=y∧b=x)∨(¬ y<x∧a=x∧b=y)
theorem Zl3{B:Zas}{s:St}{w:World}{x y a b:Nat}(h:Rep B s w)(ho:ZnX x y a b)(ha:a=0∨a=b) :
  Calls Tryz.prog 154 #[.pointer (some ⟨B.sb,0,none⟩),.int .i64 x,.int .i64 y] w (ZaB [] (.int .i64 a) B s w):=by
 have fin:∀ {v:Value},v= .int .i64 a→ZaB [] (.int .i64 a) B s w (.returned v) w:=fun e=>⟨by rw[e],B,h,Stp.refl _ _ _⟩
 rcases ho with ⟨hc,rfl,rfl⟩|⟨hc,rfl,rfl⟩
 ·have d0:decide ((b:Int) > a)=true:=Zpv (by omega)
  have qr:decide ((a:Int)<b)=true:=Zpv (by omega);rcases ha with rfl|rfl
  ·go_enter Tryz.func154,Tryz.ntmps154
   go_wp2_with fail;go_ret;exact fin (by simp)
  ·omega
 ·have qr:decide ((b:Int)<a)=false:=Zpu (by omega)
  rcases ha with rfl|rfl
  ·go_enter Tryz.func154,Tryz.ntmps154
   go_wp2_with fail;go_ret;exact fin (by simp)
  ·by_cases hz:a=0
   ·subst hz
    go_enter Tryz.func154,Tryz.ntmps154
    go_wp2_with fail;go_ret;exact fin (by simp)
   ·have d1:((a:Int) ==0)=false:=by simp;omega
    go_enter Tryz.func154,Tryz.ntmps154
    go_wp2_with fail;go_ret;exact fin rfl
theorem Znb{B:Zas}{s:St}{w:World}{x y b:Nat}(h:Rep B s w)(ho:ZnX x y 1 b)(hb:b≠1) :
  Calls Tryz.prog 154 #[.pointer (some ⟨B.sb,0,none⟩),.int .i64 x,.int .i64 y] w (ZaB [] (.int .i64 b) B s w):=by
 have d2:((1:Int) ==b)=false:=by simp;omega
 rcases ho with ⟨hc,rfl,rfl⟩|⟨hc,rfl,rfl⟩
 ·have qr:decide ((1:Int)<b)=true:=Zpv (by omega)
  go_enter Tryz.func154,Tryz.ntmps154
  go_wp2_with fail;go_ret;exact⟨rfl,B,h,Stp.refl _ _ _⟩
 ·have qr:decide ((b:Int)<1)=false:=Zpu (by omega)
  go_enter Tryz.func154,Tryz.ntmps154
  go_wp2_with fail;go_ret;exact⟨rfl,B,h,Stp.refl _ _ _⟩
theorem Zm9{nf:St→Nat→Option (Nat × St)}(hn:ZbI nf){B:Zas}{s s1:St}{w:World}{x y a b:Nat}(h:Rep B s w)(ho:ZnX x y a b)(kC:a≠0)(bA:a≠b)(gQ:a≠1)(he:nf s a=some (b,s1)) :
  Calls Tryz.prog 154 #[.pointer (some ⟨B.sb,0,none⟩),.int .i64 x,.int .i64 y] w (ZaB [] (.int .i64 (0:Nat)) B s1 w):=by
 have d1:((a:Int) ==0)=false:=by simp;omega
 have d2:((a:Int) ==b)=false:=by simp;omega
 have d3:((a:Int) ==1)=false:=by simp;omega
 have hq:=hn B s s1 w a b h he;replace he:=Zpe he;rcases ho with ⟨hc,rfl,rfl⟩|⟨hc,rfl,rfl⟩
 ·have qr:decide ((a:Int)<b)=true:=Zpv (by omega)
  go_enter Tryz.func154,Tryz.ntmps154
  go_wp2_with fail;refine hq.mono ?_;rintro e w1 ⟨rfl,B1,aU,bO⟩;replace aU:=Zpe aU;go_wp2_with fail;go_ret;exact⟨rfl,B1,aU.out,bO⟩
 ·have qr:decide ((b:Int)<a)=false:=Zpu (by omega)
  go_enter Tryz.func154,Tryz.ntmps154
  go_wp2_with fail;refine hq.mono ?_;rintro e w1 ⟨rfl,B1,aU,bO⟩;replace aU:=Zpe aU;go_wp2_with fail;go_ret;exact⟨rfl,B1,aU.out,bO⟩
theorem Rep.andLook{B:Zas}{s:St}{w:World}(h:Rep B s w)(a b:Nat) :
  (Instr.lookup 161 (.map (some B.ab)) (.agg #[.int .i64 (a:Int),.int .i64 (b:Int)]) true).run Tryz.prog w= .ok (.tuple #[((asc s.ands (a,b)).map Zab).getD (.int .i64 0),.bool (asc s.ands (a,b)).isSome]) w :=
 h.ands.look Zh6 (T:=161) Tryz.underlying161 _ Zcn (a,b)
end Go.Proofs.YtmnjakejhbpkoaaGreatDoor
namespace Go.Proofs.YtmnjakejhbpkoaaGreatDoor
open Go Go.RowKit Go.Shelf
theorem Zm8{nf:St→Nat→Option (Nat × St)}(hn:ZbI nf){B:Zas}{s s1:St}{w:World}{x y a b na c:Nat}(h:Rep B s w)(ho:ZnX x y a b)(kC:a≠0)(bA:a≠b)(gQ:a≠1)(he:nf s a=some (na,s1))(bY:na≠b)(hc:asc s1.ands (a,b)=some c) :
  Calls Tryz.prog 154 #[.pointer (some ⟨B.sb,0,none⟩),.int .i64 x,.int .i64 y] w (ZaB [] (.int .i64 c) B s1 w):=by
 have d1:((a:Int) ==0)=false:=by simp;omega
 have d2:((a:Int) ==b)=false:=by simp;omega
 have d3:((a:Int) ==1)=false:=by simp;omega
 have d4:((na:Int) ==b)=false:=by simp;omega
 have hq:=hn B s s1 w a na h he;replace he:=Zpe he
 have xa:(decide ((y:Int)<x)=true∧y<x∧a=y∧b=x)∨(decide ((y:Int)<x)=false∧¬ y<x∧a=x∧b=y):=by
  rcases ho with ⟨h1,h2,h3⟩|⟨h1,h2,h3⟩
  ·exact .inl ⟨Zpv (by omega),h1,h2,h3⟩
  ·exact .inr ⟨Zpu (by omega),h1,h2,h3⟩
 clear ho;rcases xa with ⟨d0,bR,rfl,rfl⟩|⟨d0,bR,rfl,rfl⟩
 ·skip
  go_enter Tryz.func154,Tryz.ntmps154
  go_wp2_with fail;refine hq.mono ?_;rintro e w1 ⟨rfl,B1,aU,bO⟩;have fF:B1.sb=B.sb:=bO.sb;have aK:=Zpm w1 (.cells #[.int .i64 a,.int .i64 b] 165);have aC:Ext w1 (w1.alloc (.cells #[.int .i64 a,.int .i64 b] 165)):=(Ext.refl w1).alloc _;clear hq;replace aU:=Zpe aU;go_wp2_with fail;generalize w1.alloc (.cells #[.int .i64 a,.int .i64 b] 165)=w2 at *;obtain⟨b0,b1⟩:=Zae aK
  have F1:∀w':World,Ext w2 w'→w'.cell? ⟨w1.heap.size,0,none⟩=some (.int .i64 a)∧w'.cell? ⟨w1.heap.size,1,none⟩=some (.int .i64 b)∧w'.cell? ⟨B.sb,4,none⟩=some (.map (some B1.ab)) ∧
    (Instr.lookup 161 (.map (some B1.ab)) (.agg #[.int .i64 (a:Int),.int .i64 (b:Int)]) true).run Tryz.prog w'= .ok (.tuple #[.int .i64 c,.bool true]) w':=fun w' dL=>by
   have hR:=aU.out.below (aC.trans dL).below;obtain⟨cap,_,_,_,_,c4,_⟩:=hR.cells;rw[fF]at c4;have hl:=hR.andLook a b;rw[hc]at hl;exact⟨dL.cell b0,dL.cell b1,c4,hl⟩
  replace F1:=Zpe F1;replace hc:=Zpe hc;clear b0 b1 aK
  (refine Zah (by kernel_rfl) (by kernel_rfl) ?_
   repeat (refine wpQuiet_step (fun K hK=>?_)
           go_simp
           first
            | (refine hK _ ?_;clear hK K)
            | (replace hK:=Zpe hK
               apply Exists.intro
               refine⟨fun wq hq=>?_,hK.out _ ?_⟩
               ·(obtain⟨f1,f2,f3,f4⟩:=F1.out wq hq)
                go_simp
                first
                 | done
                 | rfl
                 | exact⟨rfl,rfl⟩
                 | fail
               clear hK K))
   refine wpQuiet_nil ?_)
  intro w3 de;go_wp2_with fail;go_ret;exact⟨rfl,B1,aU.out.below (aC.trans de).below,bO.then (Stp.of_below (aC.trans de).below)⟩
 ·skip
  go_enter Tryz.func154,Tryz.ntmps154
  go_wp2_with fail;refine hq.mono ?_;rintro e w1 ⟨rfl,B1,aU,bO⟩;have fF:B1.sb=B.sb:=bO.sb;have aK:=Zpm w1 (.cells #[.int .i64 a,.int .i64 b] 165);have aC:Ext w1 (w1.alloc (.cells #[.int .i64 a,.int .i64 b] 165)):=(Ext.refl w1).alloc _;clear hq;replace aU:=Zpe aU;go_wp2_with fail;generalize w1.alloc (.cells #[.int .i64 a,.int .i64 b] 165)=w2 at *;obtain⟨b0,b1⟩:=Zae aK
  have F1:∀w':World,Ext w2 w'→w'.cell? ⟨w1.heap.size,0,none⟩=some (.int .i64 a)∧w'.cell? ⟨w1.heap.size,1,none⟩=some (.int .i64 b)∧w'.cell? ⟨B.sb,4,none⟩=some (.map (some B1.ab)) ∧
    (Instr.lookup 161 (.map (some B1.ab)) (.agg #[.int .i64 (a:Int),.int .i64 (b:Int)]) true).run Tryz.prog w'= .ok (.tuple #[.int .i64 c,.bool true]) w':=fun w' dL=>by
   have hR:=aU.out.below (aC.trans dL).below;obtain⟨cap,_,_,_,_,c4,_⟩:=hR.cells;rw[fF]at c4;have hl:=hR.andLook a b;rw[hc]at hl;exact⟨dL.cell b0,dL.cell b1,c4,hl⟩
  replace F1:=Zpe F1;replace hc:=Zpe hc;clear b0 b1 aK
  (refine Zah (by kernel_rfl) (by kernel_rfl) ?_
   repeat (refine wpQuiet_step (fun K hK=>?_)
           go_simp
           first
            | (refine hK _ ?_;clear hK K)
            | (replace hK:=Zpe hK
               apply Exists.intro
               refine⟨fun wq hq=>?_,hK.out _ ?_⟩
               ·(obtain⟨f1,f2,f3,f4⟩:=F1.out wq hq)
                go_simp
                first
                 | done
                 | rfl
                 | exact⟨rfl,rfl⟩
                 | fail
               clear hK K))
   refine wpQuiet_nil ?_)
  intro w3 de;go_wp2_with fail;go_ret;exact⟨rfl,B1,aU.out.below (aC.trans de).below,bO.then (Stp.of_below (aC.trans de).below)⟩
end Go.Proofs.YtmnjakejhbpkoaaGreatDoor
namespace Go.Proofs.YtmnjakejhbpkoaaGreatDoor
open Go Go.RowKit Go.Shelf
theorem ZhU{B:Zas}{s:St}{w w':World}{base n:Nat}{v:Value}{xs:List Value}(h:Rep B s w)(hO:w.ownsRow base ZaO 2 v n xs)(hb:ZcR<base∧gTz<base)(hg:w.grownBy w' v.ownBlock)
  (aH:∀g,v.ownBlock=some g→g∉B.eb) :
  Rep B s w'∧Stp v.ownBlock.toList B w B w'∧∀(k:Nat) (o:Obj),w.heap[k]? =some o→v.ownBlock≠some k→w'.heap[k]? =some o:=by
 have hk:∀(k:Nat) (o:Obj),w.heap[k]? =some o→v.ownBlock≠some k→w'.heap[k]? =some o:=fun k o ho hn=>(hg.block k (Zpi ho).1 (fun e=>hn e.symm)).trans ho
 refine⟨?_,Stp.of_but ⟨hg.os,hg.tape,hg.output⟩ hg.size (fun k hk hX=>hg.block k hk (fun e=>hX (by rw[←e];simp))),hk⟩;have dC:=fun k e=>Zbc hO (k:=k) e
 obtain⟨_,⟨rfl,_⟩|⟨g,cap,cur,rfl,_,hh,_⟩⟩:=hO
 ·exact h.same fun k o ho=>(hk k o ho (by simp[Value.ownBlock])).trans ho.symm
 ·have h1:=dC g rfl
  refine h.off hh (aH g rfl) (by omega) (fun k o hkg ho=>(hk k o ho ?_).trans ho.symm);simp only[Value.ownBlock];intro e;exact hkg (Option.some.inj e).symm
end Go.Proofs.YtmnjakejhbpkoaaGreatDoor
namespace Go.Proofs.YtmnjakejhbpkoaaGreatDoor
open Go Go.RowKit Go.Shelf
theorem Rep.plAt{B:Zas}{s:St}{w:World}(h:Rep B s w){a:Nat}{p:Nat}(hp:Zdr s a=p):a<s.nodes.length∧w.cell? ⟨B.nb,a*5,none⟩=some (.int .i64 p):=by
 unfold Zdr at hp
 split at hp
 ·rename_i n hn
  obtain⟨v,_,_,n0,_⟩:=h.node hn;rw[hp]at n0;exact⟨(Zpj hn).1,n0⟩
 ·omega
theorem ZcM.stp{B B':Zas}{s:St}{w w':World}{v:Value}{l:List (Nat × Nat)}(h:ZcM w v l)(hR:Rep B s w)(hS:Stp [] B w B' w'):ZcM w' v l :=
 h.same fun b c fz hb=>(hS.keep hb (hR.not_mut hb (by simp[ZaO,Za6]) (by simp[ZaO,ZaU])) (by simp)).trans hb.symm
theorem ZcM.ext{w w':World}{v:Value}{l:List (Nat × Nat)}(h:ZcM w v l)(hx:Ext w w'):ZcM w' v l :=
 h.same fun b c fz hb=>hx.below.block b (Zpi hb).1
theorem ZcN(af:St→Nat→Nat→Option (Nat × St))(p:Nat × Nat):∀(r:List (Nat × Nat)) (s:St) (out:List (Nat × Nat)) (l:List (Nat × Nat)) (s':St),ZbD af p r s out=some (l,s')→out.length≤l.length
 | [],s,out,l,s',h=>by
   simp only[ZbD,Zpw,Prod.mk.injEq]at h;rw[h.1];exact ZpD _
 | q :: r,s,out,l,s',h=>by
   unfold ZbD at h
   split at h
   ·cases h
   ·split at h
    ·exact ZcN af p r _ _ _ _ h
    ·split at h
     ·cases h
     ·have:=ZcN af p r _ _ _ _ h
      simp at this;omega
theorem Zfu(af:St→Nat→Nat→Option (Nat × St))(right:List (Nat × Nat)):∀(r:List (Nat × Nat)) (s:St) (out:List (Nat × Nat)) (l:List (Nat × Nat)) (s':St),ZbT af right r s out=some (l,s')→out.length≤l.length
 | [],s,out,l,s',h=>by
   simp only[ZbT,Zpw,Prod.mk.injEq]at h;rw[h.1];exact ZpD _
 | q :: r,s,out,l,s',h=>by
   unfold ZbT at h
   split at h
   ·cases h
   ·rename_i o s1 h1
    exact Zpp (ZcN af q right _ _ _ _ h1) (Zfu af right r _ _ _ _ h)
def ZgG (w:World)(base:Nat)(ba:Option Addr)(l:List (Nat × Nat)):Prop:=(ba=none∧l=[])∨∃b o,ba=some ⟨b,o,none⟩∧b<base∧Zca w b o ZaO (ZaL l)
theorem ZcM.rowsB{w:World}{ba:Option Addr}{n cp:Nat}{l:List (Nat × Nat)}(h:ZcM w (.slice ba n cp) l):n=l.length∧ZgG w w.heap.size ba l:=by
 obtain⟨lY,c,e,h⟩:=h
 cases e
 refine⟨rfl,?_⟩;rcases h with ⟨h1,h2,_⟩|⟨b,o,h1,h2⟩
 ·exact .inl ⟨h1,h2⟩
 ·exact .inr ⟨b,o,h1,h2.lt,h2⟩
theorem ZgG.same{w w':World}{base:Nat}{ba:Option Addr}{l:List (Nat × Nat)}(h:ZgG w base ba l)(hs:∀(k:Nat) (c:Array Value) (f:Nat × Nat),k<base→w.heap[k]? =some (Obj.cells c ZaO f)→w'.heap[k]? =w.heap[k]?):ZgG w' base ba l:=by
 rcases h with h|⟨b,o,h1,h2,c,f,h3,h4⟩
 ·exact .inl h
 ·exact .inr ⟨b,o,h1,h2,c,f,(hs b c f h2 h3).trans h3,h4⟩
theorem Zd8{w:World}{B:Nat}{e:TypeId}{sz:Nat}{v:Value}{n:Nat}{xs:List Value}(h:w.ownsRow B e sz v n xs){k:Nat}(hk:v.ownBlock=some k):k<w.heap.size∧∃c,w.heap[k]? =some (.cells c e (0,0)):=by
 obtain⟨_,⟨rfl,_⟩|⟨g,cap,cur,rfl,hg,hh,_⟩⟩:=h
 ·simp[Value.ownBlock]at hk
 ·simp[Value.ownBlock]at hk
  subst hk;exact⟨(Zpi hh).1,cur,hh⟩
structure Zfs (B B':Zas) (w:World) (base:Nat) (bx:List (Nat × Nat × Nat)) (eZ eO:Option Addr) (right left:List (Nat × Nat)) (sk:St) (out:List (Nat × Nat)) (v:Value) (wr:World):Prop where
 rep:Rep B' sk wr
 stp:Stp [] B w B' wr
 off:∀g,v.ownBlock=some g→g∉B'.eb
 box:∀x∈bx,wr.heap[x.1]? =some (.cells #[.int .i64 (x.2.1:Int),.int .i64 (x.2.2:Int)] ZaO (0,0))∧v.ownBlock≠some x.1
 bs:base≤wr.heap.size
 own:wr.ownsRow base ZaO 2 v out.length (ZaL out)
 r1:ZgG wr base eZ right
 r2:ZgG wr base eO left
section
variable {B B' B'':Zas}{w wr w':World}{base:Nat}{bx:List (Nat × Nat × Nat)}{eZ eO:Option Addr}{right left out:List (Nat × Nat)}{sk sk':St}{v:Value}
theorem Zfs.ext(h:Zfs B B' w base bx eZ eO right left sk out v wr)(hx:Ext wr w'):Zfs B B' w base bx eZ eO right left sk out v w' where
 rep:=h.rep.below hx.below
 stp:=h.stp.then (Stp.of_below hx.below)
 off:=h.off
 box:=fun x hm=>⟨(hx.below.block _ (Zpi (h.box x hm).1).1).trans (h.box x hm).1,(h.box x hm).2⟩
 bs:=Zpp h.bs hx.size
 own:=Zao h.own (fun k hk=>hx.below.block k (Zd8 h.own hk).1)
 r1:=h.r1.same (fun k c f _ hk=>hx.below.block k (Zpi hk).1)
 r2:=h.r2.same (fun k c f _ hk=>hx.below.block k (Zpi hk).1)
theorem Zfs.call(h:Zfs B B' w base bx eZ eO right left sk out v wr)(hR:Rep B'' sk' w')(hS:Stp [] B' wr B'' w'):Zfs B B'' w base bx eZ eO right left sk' out v w':=by
 have hk:∀(k:Nat) (c:Array Value) (f:Nat × Nat),wr.heap[k]? =some (Obj.cells c ZaO f)→w'.heap[k]? =some (Obj.cells c ZaO f):=fun k c f hk =>
  hS.keep hk (h.rep.not_mut hk (by decide) (by decide)) (by simp)
 exact {
  rep:=hR
  stp:=h.stp.then hS
  off:=fun g hg hc=>by
   rcases hS.newe g hc with h1|h1|h1
   ·exact h.off g hg h1
   ·have:=(Zd8 h.own hg).1;omega
   ·simp at h1
  box:=fun x hm=>⟨hk _ _ _ (h.box x hm).1,(h.box x hm).2⟩
  bs:=Zpp h.bs hS.fr.size
  own:=Zao h.own (fun k hb=>by
   obtain⟨_,c,hc⟩:=Zd8 h.own hb;exact(hk _ _ _ hc).trans hc.symm)
  r1:=h.r1.same (fun k c f _ hb=>(hk _ _ _ hb).trans hb.symm)
  r2:=h.r2.same (fun k c f _ hb=>(hk _ _ _ hb).trans hb.symm) }
theorem Zfs.boxed(h:Zfs B B' w base bx eZ eO right left sk out v wr)(p:Nat × Nat):Zfs B B' w base ((wr.heap.size,p.1,p.2) :: bx) eZ eO right left sk out v (wr.alloc (.cells #[.int .i64 (p.1:Int),.int .i64 (p.2:Int)] 165)):=by
 have h1:=h.ext ((Ext.refl wr).alloc (.cells #[.int .i64 (p.1:Int),.int .i64 (p.2:Int)] ZaO));refine { h1 with box:=fun x hm=>?_ };rcases List.mem_cons.1 hm with rfl|hm
 ·exact⟨Zpm wr _,fun e=>Nat.lt_irrefl _ (Zd8 h.own e).1⟩
 ·exact h1.box x hm
theorem Zfs.fewer{by_:List (Nat × Nat × Nat)}(h:Zfs B B' w base bx eZ eO right left sk out v wr)(hs:∀x∈by_,x∈bx):Zfs B B' w base by_ eZ eO right left sk out v wr :=
 { h with box:=fun x hm=>h.box x (hs x hm) }
theorem Zfs.tight(h:Zfs B B' w base bx eZ eO right left sk out v wr):Zfs B { B' with eb:=B'.eb.filter (fun k=>decide (k<wr.heap.size)) } w base bx eZ eO right left sk out v wr :=
 { h with
   rep:=h.rep.tight
   stp:=⟨h.stp.fr,h.stp.sb,h.stp.new,fun k hk=>h.stp.newe k (List.mem_filter.1 hk).1⟩
   off:=fun g hg hc=>h.off g hg (List.mem_filter.1 hc).1 }
theorem Zju(l:List (Nat × Nat))(p:Nat × Nat):ZaL (l++[p])=ZaL l++[.int .i64 (p.1:Int),.int .i64 (p.2:Int)]:=by simp[ZaL]
theorem Zfs.push{p:Nat × Nat}{g cap:Nat}{w1:World}(h:Zfs B B' w base bx eZ eO right left sk out v w1)(tM:∀k∈B'.eb,k<w1.heap.size)(hb:ZcR<base∧gTz<base)(hw:w.heap.size≤base)
  (ho:w'.ownsRow base ZaO 2 (.slice (some ⟨g,0,none⟩) (out.length+1) cap) (out.length+1) (ZaL out++[.int .i64 (p.1:Int),.int .i64 (p.2:Int)])) (hg:w1.grownBy w' v.ownBlock) (cF:v.ownBlock=some g∨g=w1.heap.size) :
  Zfs B B' w base bx eZ eO right left sk (out++[p]) (.slice (some ⟨g,0,none⟩) (out.length+1) cap) w':=by
 obtain⟨hR,hS,hK⟩:=ZhU h.rep h.own hb hg h.off
 have aJ:∀(k:Nat) (c:Array Value) (f:Nat × Nat),k<base→w1.heap[k]? =some (Obj.cells c ZaO f)→w'.heap[k]? =w1.heap[k]?:=fun k c f hk hc =>
  (hK _ _ hc (fun e=>by have:=Zbc h.own e;omega)).trans hc.symm
 exact {
  rep:=hR
  stp:=(h.stp.trans hS).weak (fun x hx=>by
   simp only[List.nil_append,Option.mem_toList,Option.mem_def]at hx;exact .inr (Zpp hw (Zbc h.own hx)))
  off:=fun k hk hc=>by
   simp only[Value.ownBlock,Zpw]at hk;subst hk;rcases cF with e|e
   ·exact h.off _ e hc
   ·have:=tM _ hc;omega
  box:=fun x hm=>by
   obtain⟨b1,b2⟩:=h.box x hm;refine⟨hK _ _ b1 b2,fun e=>?_⟩;simp only[Value.ownBlock,Zpw]at e;rcases cF with e2|e2
   ·exact b2 (by rw[e2,e])
   ·have:=(Zpi b1).1;omega
  bs:=Zpp h.bs hS.fr.size
  own:=ZaW ho (by simp) (by rw[Zju])
  r1:=h.r1.same aJ
  r2:=h.r2.same aJ }
theorem ZgG.at{l:List (Nat × Nat)}{ba:Option Addr}(h:ZgG w base ba l){k:Nat}(hk:k<l.length):∃b o,ba=some ⟨b,o,none⟩∧w.cell? ⟨b,o+k*2,none⟩=some (.int .i64 (l[k].1:Nat))∧w.cell? ⟨b,o+k*2+1,none⟩=some (.int .i64 (l[k].2:Nat)):=by
 rcases h with ⟨_,e⟩|⟨b,o,e,_,hr⟩
 ·rw[e]at hk;simp at hk
 ·obtain⟨c0,c1⟩:=hr.off0 k hk
  exact⟨b,o,e,c0,c1⟩
end
theorem ZcM.of_own{w:World}{base:Nat}{v:Value}{l:List (Nat × Nat)}(h:w.ownsRow base ZaO 2 v l.length (ZaL l)):ZcM w v l:=by
 obtain⟨_,⟨rfl,e⟩|⟨g,cap,cur,rfl,bk,bV,hn,hm,aO,ht⟩⟩:=h
 ·have hl:l=[]:=List.eq_nil_of_length_eq_zero (by omega)
  subst hl;exact⟨none,0,rfl,.inl ⟨rfl,rfl,rfl⟩⟩
 ·refine⟨some ⟨g,0,none⟩,cap,rfl,.inr ⟨g,0,rfl,cur,(0,0),bV,fun j u hj=>?_⟩⟩
  rw[←ht,List.getElem?_take]at hj
  split at hj
  ·rw[Nat.zero_add];simpa using hj
  ·cases hj
theorem ZfU{g:St→Nat→Option (Nat × St)}{B:Zas}{s s1:St}{w:World}{a pl:Nat}{l:List (Nat × Nat)}(h:Rep B s w)(he:ZbX g s a pl=some (l,s1)):l.length≤1048576:=by
 unfold ZbX at he
 split at he
 ·cases he
 rename_i n hn
 have gJ:=(h.small.2 n (List.mem_of_getElem? hn)).2.2.2.2.1
 split at he
 ·cases he;exact gJ
 split at he
 ·cases he
 split at he
 ·cases he
 split at he
 ·split at he
  ·cases he
  ·cases he;simp
 ·cases he;simp
def ZmP (af:St→Nat→Nat→Option (Nat × St))(B:Zas)(w:World)(base:Nat)(bx:List (Nat × Nat × Nat))(eZ eO:Option Addr)(right left:List (Nat × Nat))(fin:List (Nat × Nat) × St)(k:Nat)(v:Value)(wr:World):Prop :=
 ∃B' sk out,Zfs B B' w base bx eZ eO right left sk out v wr∧ZbT af right (left.drop k) sk out=some fin
def Zn3 (af:St→Nat→Nat→Option (Nat × St))(B:Zas)(w:World)(base:Nat)(bx:List (Nat × Nat × Nat))(eZ eO:Option Addr)(right left:List (Nat × Nat))(p:Nat × Nat)(k:Nat)(fin:List (Nat × Nat) × St)(j:Nat)(v:Value)(wr:World):Prop :=
 ∃B' sk out ej s',Zfs B B' w base bx eZ eO right left sk out v wr∧ZbD af p (right.drop j) sk out=some (ej,s')∧ZbT af right (left.drop (k+1)) s' ej=some fin
theorem ZhF{af:St→Nat→Nat→Option (Nat × St)}{p q:Nat × Nat}{r out:List (Nat × Nat)}{s:St}{fin:List (Nat × Nat) × St}(h:ZbD af p (q :: r) s out=some fin) :
  (∃s1,af s p.1 q.1=some (0,s1)∧ZbD af p r s1 out=some fin)∨(∃pr s1 su s2,af s p.1 q.1=some (pr,s1)∧pr≠0∧af s1 p.2 q.2=some (su,s2)∧ZbD af p r s2 (out++[(pr,su)])=some fin):=by
 unfold ZbD at h
 split at h
 ·cases h
 ·rename_i pr s1 h1
  split at h
  ·rename_i h0
   subst h0;exact .inl ⟨s1,h1,h⟩
  ·rename_i h0
   split at h
   ·cases h
   ·rename_i su s2 h2
    exact .inr ⟨pr,s1,su,s2,h1,h0,h2,h⟩
theorem ZhC{af:St→Nat→Nat→Option (Nat × St)}{right:List (Nat × Nat)}{p:Nat × Nat}{r out:List (Nat × Nat)}{s:St}{fin:List (Nat × Nat) × St}(h:ZbT af right (p :: r) s out=some fin) :
  ∃ej s',ZbD af p right s out=some (ej,s')∧ZbT af right r s' ej=some fin:=by
 unfold ZbT at h
 split at h
 ·cases h
 ·rename_i o s1 h1
  exact⟨o,s1,h1,h⟩
end Go.Proofs.YtmnjakejhbpkoaaGreatDoor
namespace Go.Proofs.YtmnjakejhbpkoaaGreatDoor
open Go Go.RowKit Go.Shelf
theorem Zna{nf:St→Nat→Option (Nat × St)}{af:St→Nat→Nat→Option (Nat × St)}(hn:ZbI nf)(ih:ZdE af){B:Zas}{s s1 s':St}{w:World}{x y a b na c:Nat}(h:Rep B s w)(ho:ZnX x y a b)(kC:a≠0)(bA:a≠b)(gQ:a≠1)(he:nf s a=some (na,s1))(bY:na≠b)(hc:asc s1.ands (a,b)=none)
  (ag:ZeA nf af s1 a b=some (c,s')) :
  Calls Tryz.prog 154 #[.pointer (some ⟨B.sb,0,none⟩),.int .i64 x,.int .i64 y] w (ZaB [] (.int .i64 c) B s' w):=by
 unfold ZeA at ag
 split at ag
 ·cases ag
 rename_i pl fC
 split at ag
 ·cases ag
 rename_i right s2 eh
 split at ag
 ·cases ag
 rename_i left s3 mn
 split at ag
 ·cases ag
 rename_i l s4 aN
 split at ag
 ·cases ag
 rename_i c' s5 dD
 simp only[Zpw,Prod.mk.injEq]at ag;obtain⟨rfl,rfl⟩:=ag;obtain⟨gj,p,q,e1,e2,jj,db,rfl⟩:=Zbo fC;have d1:((a:Int) ==0)=false:=by simp;omega
 have d2:((a:Int) ==b)=false:=by simp;omega
 have d3:((a:Int) ==1)=false:=by simp;omega
 have d4:((na:Int) ==b)=false:=by simp;omega
 have hq:=hn B s s1 w a na h he;replace he:=Zpe he;replace eh:=Zpe eh;replace mn:=Zpe mn;replace aN:=Zpe aN;replace dD:=Zpe dD;replace e1:=Zpe e1;replace e2:=Zpe e2;replace fC:=Zpe fC
 have xa:(decide ((y:Int)<x)=true∧y<x∧a=y∧b=x)∨(decide ((y:Int)<x)=false∧¬ y<x∧a=x∧b=y):=by
  rcases ho with ⟨h1,h2,h3⟩|⟨h1,h2,h3⟩
  ·exact .inl ⟨Zpv (by omega),h1,h2,h3⟩
  ·exact .inr ⟨Zpu (by omega),h1,h2,h3⟩
 clear ho h;rcases xa with ⟨d0,bR,rfl,rfl⟩|⟨d0,bR,rfl,rfl⟩
 all_goals
  go_enter Tryz.func154,Tryz.ntmps154
  go_wp2_with fail;refine hq.mono ?_;rintro e w1 ⟨rfl,B1,aU,bO⟩;have fF:B1.sb=B.sb:=bO.sb;have aK:=Zpm w1 (.cells #[.int .i64 a,.int .i64 b] 165);have aC:Ext w1 (w1.alloc (.cells #[.int .i64 a,.int .i64 b] 165)):=(Ext.refl w1).alloc _;clear hq;replace aU:=Zpe aU;go_wp2_with fail;generalize w1.alloc (.cells #[.int .i64 a,.int .i64 b] 165)=w2 at *;obtain⟨b0,b1⟩:=Zae aK
  have F1:∀w':World,Ext w2 w'→w'.cell? ⟨w1.heap.size,0,none⟩=some (.int .i64 a)∧w'.cell? ⟨w1.heap.size,1,none⟩=some (.int .i64 b)∧w'.cell? ⟨B.sb,4,none⟩=some (.map (some B1.ab)) ∧
    (Instr.lookup 161 (.map (some B1.ab)) (.agg #[.int .i64 (a:Int),.int .i64 (b:Int)]) true).run Tryz.prog w'= .ok (.tuple #[.int .i64 0,.bool false]) w':=fun w' dL=>by
   have hR:=aU.out.below (aC.trans dL).below;obtain⟨cap,_,_,_,_,c4,_⟩:=hR.cells;rw[fF]at c4;have hl:=hR.andLook a b;rw[hc]at hl;exact⟨dL.cell b0,dL.cell b1,c4,hl⟩
  replace F1:=Zpe F1;replace hc:=Zpe hc;replace aK:=Zpe aK;clear b0 b1
  (refine Zah (by kernel_rfl) (by kernel_rfl) ?_
   repeat (refine wpQuiet_step (fun K hK=>?_)
           go_simp
           first
            | (refine hK _ ?_;clear hK K)
            | (replace hK:=Zpe hK
               apply Exists.intro
               refine⟨fun wq hq=>?_,hK.out _ ?_⟩
               ·(obtain⟨f1,f2,f3,f4⟩:=F1.out wq hq)
                go_simp
                first
                 | done
                 | rfl
                 | exact⟨rfl,rfl⟩
                 | fail
               clear hK K))
   refine wpQuiet_nil ?_)
  intro w3 de;clear F1;have fO:=aU.out.below (aC.trans de).below;obtain⟨cap,ct,_,cn,_,_,_⟩:=fO.cells;rw[fF]at ct cn;obtain⟨ai,na0⟩:=fO.plAt e1.out;obtain⟨bi,nb0⟩:=fO.plAt e2.out;have vE:(0:Int)≤a:=by omega
  have vF:(a:Int)<s1.nodes.length:=by omega
  have gb0:(0:Int)≤b:=by omega
  have gb1:(b:Int)<s1.nodes.length:=by omega
  go_wp2_with fail
  have F2:∀w':World,Ext w3 w'→w'.cell? ⟨B.sb,0,none⟩=some (.slice (some ⟨B1.tb,0,none⟩) s1.tree.length B1.tc)∧w'.cell? ⟨B.sb,2,none⟩=some (.slice (some ⟨B1.nb,0,none⟩) s1.nodes.length cap)∧w'.cell? ⟨B1.nb,a*5,none⟩=some (.int .i64 p)∧w'.cell? ⟨B1.nb,b*5,none⟩=some (.int .i64 q) :=
   fun w' dL=>⟨dL.cell ct,dL.cell cn,dL.cell na0,dL.cell nb0⟩
  replace F2:=Zpe F2;have du:=Zpe fO.treeAt;replace fO:=Zpe fO;replace gj:=Zpe gj;clear ct cn na0 nb0
  (refine Zah (by kernel_rfl) (by kernel_rfl) ?_
   repeat (refine wpQuiet_step (fun K hK=>?_)
           go_simp
           first
            | (refine hK _ ?_;clear hK K)
            | (replace hK:=Zpe hK
               apply Exists.intro
               refine⟨fun wq hq=>?_,hK.out _ ?_⟩
               ·(obtain⟨f1,f2,f3,f4⟩:=F2.out wq hq)
                go_simp
                first
                 | done
                 | rfl
                 | exact⟨rfl,rfl⟩
                 | (refine(Zgm wq B1.tb 0 B1.tc (du.out.ext hq) gj.out p q jj db).mono ?_;rintro e w' ⟨rfl,hb⟩;exact⟨rfl,hq.trans hb⟩)
               clear hK K))
   refine wpQuiet_nil ?_)
  intro w4 u6;clear F2;have j7:=fO.out.below u6.below;have dA:Stp [] B w B1 w4:=bO.then (Stp.of_below ((aC.trans de).trans u6).below)
  have jm:=ZfT hn j7 eh.out;rw[fF]at jm;have gZ:=((de.trans u6).below.block _ (Zpi aK.out).1).trans aK.out;replace gZ:=Zpe gZ;replace j7:=Zpe j7;go_wp2_with fail;refine jm.mono ?_;rintro e w5 ⟨v1,rfl,jH,B2,eP,cT⟩;have db:=ZfT hn eP mn.out;have jn:=ZfU j7.out eh.out;have gz:=ZfU eP mn.out;rw[cT.sb,fF]at db;have gd:=cT.keep gZ.out (j7.out.not_mut gZ.out (by decide) (by decide)) (by simp);replace gd:=Zpe gd;replace jH:=Zpe jH;replace eP:=Zpe eP;clear jm;go_wp2_with fail;refine db.mono ?_;rintro e w6 ⟨v2,rfl,mz,B3,df,cE⟩;have oH:=jH.out.stp eP.out cE;have nJ:=cE.keep gd.out (eP.out.not_mut gd.out (by decide) (by decide)) (by simp);have jJ:Stp [] B w B3 w6:=(dA.then cT).then cE
  clear db;obtain⟨eZ,uz,rfl,_⟩:=id oH;obtain⟨eO,cp2,rfl,_⟩:=id mz;obtain⟨_,iE⟩:=oH.rowsB;obtain⟨_,fX⟩:=mz.rowsB;have aw:ZcR<w6.heap.size∧gTz<w6.heap.size:=⟨df.pow.lt,df.tz.lt'⟩;have jr:w.heap.size≤w6.heap.size:=jJ.fr.size
  have aL:l.length≤1048576:=by
   have:=dD.out;unfold ZjG at this
   by_cases hl:l.length≤1048576
   ·exact hl
   ·simp[hl]at this
  have aQ:Hid (ZmP af B w w6.heap.size [(w1.heap.size,a,b)] eZ eO right left (l,s4) 0 (.slice none 0 0) w6):=Zpe
   ⟨B3,s3,[],⟨df,jJ,fun g hg=>by simp[Value.ownBlock]at hg,fun x hx=>by simp at hx;subst hx;exact⟨nJ,by simp[Value.ownBlock]⟩,ZpD _,World.ownsRow_nil _ _ _ _,iE,fX⟩,aN.out⟩
  obtain⟨ip,sM,xm,sx,dF⟩:=info_parts ZeU;replace aw:=Zpe aw;clear oH mz jH df jJ iE fX nJ gd gZ aK eP cE cT dA j7 fO aU bO aN aC de u6;go_wp2_with fail;generalize w6.heap.size=base at *;generalize w1.heap.size=kb at *
  go_loopw [11,87] (fun v i wr=>∃k:Nat,k≤left.length∧i= .int .i64 k∧Hid (ZmP af B w base [(kb,a,b)] eZ eO right left (l,s4) k v wr))
   (fun _ i _=>left.length - (intOf i).toNat)
  case atStart=>exact⟨0,Nat.zero_le _,rfl,aQ⟩
  case round =>
   clear aQ;obtain⟨k,hk,rfl,hI⟩:=hrel;obtain⟨B4,sk,out,hC,eQ⟩:=hI.out;clear hI
   by_cases aE:k<left.length
   ·rw[List.drop_eq_getElem_cons aE]at eQ
    obtain⟨vb,vo,rfl,e0,e1⟩:=hC.r2.at aE;generalize left[k]=p at *;obtain⟨p1,p2⟩:=p;simp only at e0 e1;obtain⟨ej,s',aJ,bw⟩:=ZhC eQ;have hB:=hC.boxed (p1,p2);have gw:Hid (Zn3 af B w base [(wr.heap.size,p1,p2),(kb,a,b)] eZ (some ⟨vb,vo,none⟩) right left (p1,p2) k (l,s4) 0 u11 (wr.alloc (.cells #[.int .i64 (p1:Int),.int .i64 (p2:Int)] 165))):=Zpe ⟨B4,sk,out,ej,s',hB,aJ,bw⟩;clear hB aJ bw eQ;have li:=hC.bs;clear hC;go_wp2_with fail;generalize wr.alloc (.cells #[.int .i64 (p1:Int),.int .i64 (p2:Int)] 165)=wi at *;generalize wr.heap.size=pb at *
    go_loopw [11,93] (fun v i wr=>∃j:Nat,j≤right.length∧i= .int .i64 j∧Hid (Zn3 af B w base [(pb,p1,p2),(kb,a,b)] eZ (some ⟨vb,vo,none⟩) right left (p1,p2) k (l,s4) j v wr))
     (fun _ i _=>right.length - (intOf i).toNat)
    case atStart=>exact⟨0,Nat.zero_le _,rfl,gw⟩
    case round =>
     clear gw;obtain⟨j,hj,rfl,hI⟩:=hrel;obtain⟨B5,sk5,lW,ej,s',hC,aJ,bw⟩:=hI.out;clear hI
     by_cases hjt:j<right.length
     ·rw[List.drop_eq_getElem_cons hjt]at aJ
      obtain⟨rb,ro,rfl,e0,e1⟩:=hC.r1.at hjt;generalize right[j]=q at *;obtain⟨q1,q2⟩:=q;simp only at e0 e1;have cv:=hC.boxed (q1,q2);obtain⟨p0,pv⟩:=Zae (cv.box (pb,p1,p2) (by simp)).1;obtain⟨q0,q1'⟩:=Zae (cv.box (_,q1,q2) (Zpy ..)).1;simp only at p0 pv q0 q1';have pM:B5.sb=B.sb:=cv.stp.sb;rcases ZhF aJ with ⟨s6,h1,dK⟩|⟨pr,s6,su,s7,h1,jl,h2,dK⟩
      ·have c1:=ih B5 sk5 s6 _ p1 q1 0 cv.rep h1
       rw[pM]at c1;clear aJ hC;replace dK:=Zpe dK;replace bw:=Zpe bw;replace h1:=Zpe h1;replace cv:=Zpe cv;go_wp2_with fail;generalize wr.alloc (.cells #[.int .i64 (q1:Int),.int .i64 (q2:Int)] 165)=w7 at *;refine c1.mono ?_;rintro e w8 ⟨rfl,B6,df,cE⟩;have l5:=(cv.out.call df cE).fewer (by_:=[(pb,p1,p2),(kb,a,b)]) (by simp);replace df:=Zpe df;go_wp2_with fail;go_roundw
       case rel=>exact⟨j+1,by omega,by go_num,Zpe ⟨B6,s6,lW,ej,s',l5,dK.out,bw.out⟩⟩
       case measure=>simp[intOf];omega
      ·have c1:=ih B5 sk5 s6 _ p1 q1 pr cv.rep h1
       rw[pM]at c1;have jS:((pr:Int) !=0)=true:=by simp;omega
       have hpn0:((pr:Int) ==0)=false:=by simp;omega
       clear aJ hC;have xh:=ZcN _ _ _ _ _ _ _ dK;have hple2:=Zfu _ _ _ _ _ _ _ bw;replace dK:=Zpe dK;replace bw:=Zpe bw;replace h1:=Zpe h1;replace h2:=Zpe h2;replace cv:=Zpe cv;go_wp2_with fail;generalize wr.alloc (.cells #[.int .i64 (q1:Int),.int .i64 (q2:Int)] 165)=w7 at *;refine c1.mono ?_;rintro e w8 ⟨rfl,B6,df,cE⟩;have l5:=cv.out.call df cE;obtain⟨p0',p1''⟩:=Zae (l5.box (pb,p1,p2) (by simp)).1;obtain⟨q0',q1''⟩:=Zae (l5.box (_,q1,q2) (Zpy ..)).1;simp only at p0' p1'' q0' q1'';have c2:=ih B6 s6 s7 w8 p2 q2 su df h2.out;rw[cE.sb,pM]at c2;clear c1 p0 pv q0 q1';replace df:=Zpe df;replace l5:=Zpe l5;go_wp2_with fail;refine c2.mono ?_;rintro e w9 ⟨rfl,B7,i8,dh⟩;have vM:=((l5.out.call i8 dh).tight).fewer (by_:=[(pb,p1,p2),(kb,a,b)]) (by simp);have jF:=vM.ext ((Ext.refl w9).alloc (.cells #[.int .i64 (pr:Int),.int .i64 (su:Int)] 165));have dX:Hid (∀u∈([.int .i64 (pr:Int),.int .i64 (su:Int)]:List Value),u.oneCell'=true):=Zpe (by intro u hu;simp at hu;rcases hu with rfl|rfl <;> rfl);have bJ:lW.length+1≤1048576:=by simp at xh;omega
       have wT:=jF.bs;clear c2 p0' p1'' q0' q1'';replace i8:=Zpe i8;replace vM:=Zpe vM;replace jF:=Zpe jF
       go_wp2_with (at_builtin;refine wpList_append_lies _ rfl _ _ 156 rfl base 165 ip _ 2 16 Tryz.underlying156 sM xm sx dF rfl (by decide) _ lW.length (ZaL lW) rfl jF.out.own ⟨w9.heap.size,0,none⟩ 1 1 [.int .i64 (pr:Int),.int .i64 (su:Int)] rfl rfl (World.news_of_block (cs:=#[.int .i64 (pr:Int),.int .i64 (su:Int)]) (t:=165) (fr:=(0,0)) (Zpm w9 _)) dX.out (by omega) (by unfold maxLen;omega) (by omega) wT _ rfl ?_;intro g9 cap9 yS ho9 jg wP _)
       have rB:=jF.out.push (p:=(pr,su)) (w':=yS) (fun k hk=>Zpq (by simpa using (List.mem_filter.1 hk).2) (Below.size (Below.alloc (Zpr _ w9) (ZpD _) _))) aw.out jr ho9 jg wP;go_roundw
       case rel=>exact⟨j+1,by omega,by go_num,Zpe ⟨_,s7,lW++[(pr,su)],ej,s',rB,dK.out,bw.out⟩⟩
       case measure=>simp[intOf];omega
     ·obtain rfl:j=right.length:=by omega
      simp only[List.drop_length,ZbD,Zpw,Prod.mk.injEq]at aJ;obtain⟨rfl,rfl⟩:=aJ;have cv:=hC.fewer (by_:=[(kb,a,b)]) (by simp);replace bw:=Zpe bw;replace hC:=Zpe hC;replace cv:=Zpe cv;go_wp2_with fail;go_roundw
      case rel=>exact⟨k+1,by omega,by go_num,Zpe ⟨B5,_,_,cv.out,bw.out⟩⟩
      case measure=>simp[intOf];omega
   ·obtain rfl:k=left.length:=by omega
    simp only[List.drop_length,ZbT,Zpw,Prod.mk.injEq]at eQ;obtain⟨rfl,rfl⟩:=eQ;have vP:=ZcM.of_own hC.own;have hq9:=Zmr (Zgq hn ih) hC.rep vP dD.out;rw[hC.stp.sb]at hq9;obtain⟨gR,_⟩:=hC.box (kb,a,b) (by simp);have xZ:=hC.rep.not_mut gR (by decide) (by decide);have rP:=hC.stp;replace gR:=Zpe gR;replace hC:=Zpe hC;replace vP:=Zpe vP;go_wp2_with fail;refine hq9.mono ?_;rintro e w7 ⟨rfl,B7,i8,dh⟩;obtain⟨k0,k1⟩:=Zae (dh.keep gR.out xZ (by simp));obtain⟨_,_,_,_,_,c4,_⟩:=i8.cells;rw[dh.sb,rP.sb]at c4;have oP:Rep B7 s5 w7.drew:=i8.same fun _ _ _=>rfl
    have f4:w7.drew.cell? ⟨B.sb,4,none⟩=some (.map (some B7.ab)):=c4;have f0:w7.drew.cell? ⟨kb,0,none⟩=some (.int .i64 a):=k0;have f1:w7.drew.cell? ⟨kb,1,none⟩=some (.int .i64 b):=k1
    have lu:(Instr.mapUpdate 161 (.map (some B7.ab)) (.agg #[.int .i64 a,.int .i64 b]) (.int .i64 c')).run Tryz.prog w7.drew= .ok () (Zap 165 Tryz.prog w7.drew B7.ab (Zga (a,b)) (Zab c')) :=
     (oP.ands.put Zh6 (T:=161) Tryz.underlying161 (a,b) c').1
    have fv:=oP.putA (a,b) c'
    have cP:Stp [] B w B7 (Zap 165 Tryz.prog w7.drew B7.ab (Zga (a,b)) (Zab c')) :=
     ((rP.then dh).then (Stp.of_below (X:=[]) ((Zpr _ w7).drew))).then (ZfN _ _ (by simp[Zas.mut]) _ _)
    generalize Zap 165 Tryz.prog w7.drew B7.ab (Zga (a,b)) (Zab c')=w9 at *;replace fv:=Zpe fv;replace oP:=Zpe oP;replace i8:=Zpe i8;clear c4 k0 k1;go_wp2_with fail
    go_region_law (fail)
    all_goals
     go_wp2_with fail;go_ret;exact⟨rfl,B7,fv.out,cP⟩
end Go.Proofs.YtmnjakejhbpkoaaGreatDoor
namespace Go.Proofs.YtmnjakejhbpkoaaGreatDoor
open Go Go.RowKit Go.Shelf
theorem Zfv{nf:St→Nat→Option (Nat × St)}{af:St→Nat→Nat→Option (Nat × St)}(hn:ZbI nf)(ih:ZdE af){B:Zas}{s s':St}{w:World}{x y a b r:Nat}(h:Rep B s w)(ho:ZnX x y a b)(he:ZdZ nf af s a b=some (r,s')) :
  Calls Tryz.prog 154 #[.pointer (some ⟨B.sb,0,none⟩),.int .i64 x,.int .i64 y] w (ZaB [] (.int .i64 r) B s' w):=by
 unfold ZdZ at he
 split at he
 ·rename_i hc
  cases he
  exact Zl3 h ho hc
 rename_i hc
 have kC:a≠0:=fun e=>hc (.inl e)
 have bA:a≠b:=fun e=>hc (.inr e)
 split at he
 ·rename_i h1
  cases he
  subst h1;exact Znb h ho (fun e=>bA e.symm)
 rename_i gQ
 split at he
 ·cases he
 rename_i na s1 bY
 split at he
 ·rename_i h2
  cases he
  subst h2;exact Zm9 hn h ho kC bA gQ bY
 rename_i fD
 split at he
 ·rename_i c gh
  cases he
  exact Zm8 hn h ho kC bA gQ bY fD gh
 ·rename_i gh
  exact Zna hn ih h ho kC bA gQ bY fD gh he
theorem Zdf(f:Nat):ZdE (ZhD f):=by
 induction f with
 | zero=>intro B s s' w a b r h he;cases he
 | succ f ih =>
   intro B s s' w a b r h he;unfold ZhD at he
   split at he
   ·rename_i hc
    exact Zfv (ZcV f) ih h (.inl ⟨hc,rfl,rfl⟩) he
   ·rename_i hc
    exact Zfv (ZcV f) ih h (.inr ⟨hc,rfl,rfl⟩) he
end Go.Proofs.YtmnjakejhbpkoaaGreatDoor
