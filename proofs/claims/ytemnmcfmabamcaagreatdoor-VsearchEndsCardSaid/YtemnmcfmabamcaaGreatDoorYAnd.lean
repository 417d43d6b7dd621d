import Derived.Test.YtemnmcfmabamcaaGreatDoorYMake
set_option linter.unusedSimpArgs false
set_option linter.unusedVariables false
set_option maxRecDepth 100000
set_option maxHeartbeats 8000000
namespace Go.Proofs.YtemnmcfmabamcaaGreatDoor
open Go Go.RowKit Go.Shelf
def Zqc (x y a b:Nat):Prop:=(y<x∧a=y∧b=x)∨(¬ y<x∧a=x∧b=y)
theorem ZnC{B:Zar}{s:St}{w:World}{x y a b:Nat}(h:Rep B s w)(ho:Zqc x y a b)(ha:a=0∨a=b) :
  Calls Tryz.prog 74 #[.pointer (some ⟨B.sb,0,none⟩),.int .i64 x,.int .i64 y] w (ZaF [] (.int .i64 a) B s w):=by
 have fin:∀ {v:Value},v= .int .i64 a→ZaF [] (.int .i64 a) B s w (.returned v) w:=fun e=>⟨by rw[e],B,h,Stp.refl _ _ _⟩
 rcases ho with ⟨hc,rfl,rfl⟩|⟨hc,rfl,rfl⟩
 ·have d0:decide ((b:Int) > a)=true:=ZrI (by omega)
  have oH:decide ((a:Int)<b)=true:=ZrI (by omega);rcases ha with rfl|rfl
  ·go_enter Tryz.func74,Tryz.ntmps74
   go_wp2_with fail;go_ret;exact fin (by simp)
  ·omega
 ·have oH:decide ((b:Int)<a)=false:=ZrH (by omega)
  rcases ha with rfl|rfl
  ·go_enter Tryz.func74,Tryz.ntmps74
   go_wp2_with fail;go_ret;exact fin (by simp)
  ·by_cases hz:a=0
   ·subst hz
    go_enter Tryz.func74,Tryz.ntmps74
    go_wp2_with fail;go_ret;exact fin (by simp)
   ·have d1:((a:Int) ==0)=false:=by simp;omega
    go_enter Tryz.func74,Tryz.ntmps74
    go_wp2_with fail;go_ret;exact fin rfl
theorem Zpk{B:Zar}{s:St}{w:World}{x y b:Nat}(h:Rep B s w)(ho:Zqc x y 1 b)(hb:b≠1) :
  Calls Tryz.prog 74 #[.pointer (some ⟨B.sb,0,none⟩),.int .i64 x,.int .i64 y] w (ZaF [] (.int .i64 b) B s w):=by
 have d2:((1:Int) ==b)=false:=by simp;omega
 rcases ho with ⟨hc,rfl,rfl⟩|⟨hc,rfl,rfl⟩
 ·have oH:decide ((1:Int)<b)=true:=ZrI (by omega)
  go_enter Tryz.func74,Tryz.ntmps74
  go_wp2_with fail;go_ret;exact⟨rfl,B,h,Stp.refl _ _ _⟩
 ·have oH:decide ((b:Int)<1)=false:=ZrH (by omega)
  go_enter Tryz.func74,Tryz.ntmps74
  go_wp2_with fail;go_ret;exact⟨rfl,B,h,Stp.refl _ _ _⟩
theorem Zpi{nf:St→Nat→Option (Nat × St)}(hn:ZcA nf){B:Zar}{s s1:St}{w:World}{x y a b:Nat}(h:Rep B s w)(ho:Zqc x y a b)(ni:a≠0)(bT:a≠b)(lU:a≠1)(he:nf s a=some (b,s1)) :
  Calls Tryz.prog 74 #[.pointer (some ⟨B.sb,0,none⟩),.int .i64 x,.int .i64 y] w (ZaF [] (.int .i64 (0:Nat)) B s1 w):=by
 have d1:((a:Int) ==0)=false:=by simp;omega
 have d2:((a:Int) ==b)=false:=by simp;omega
 have d3:((a:Int) ==1)=false:=by simp;omega
 have hq:=hn B s s1 w a b h he;replace he:=Zrr he;rcases ho with ⟨hc,rfl,rfl⟩|⟨hc,rfl,rfl⟩
 ·have oH:decide ((a:Int)<b)=true:=ZrI (by omega)
  go_enter Tryz.func74,Tryz.ntmps74
  go_wp2_with fail;refine hq.mono ?_;rintro e w1 ⟨rfl,B1,aQ,cC⟩;replace aQ:=Zrr aQ;go_wp2_with fail;go_ret;exact⟨rfl,B1,aQ.out,cC⟩
 ·have oH:decide ((b:Int)<a)=false:=ZrH (by omega)
  go_enter Tryz.func74,Tryz.ntmps74
  go_wp2_with fail;refine hq.mono ?_;rintro e w1 ⟨rfl,B1,aQ,cC⟩;replace aQ:=Zrr aQ;go_wp2_with fail;go_ret;exact⟨rfl,B1,aQ.out,cC⟩
theorem Rep.andLook{B:Zar}{s:St}{w:World}(h:Rep B s w)(a b:Nat) :
  (Instr.lookup 65 (.map (some B.ab)) (.agg #[.int .i64 (a:Int),.int .i64 (b:Int)]) true).run Tryz.prog w= .ok (.tuple #[((asc s.ands (a,b)).map Zad).getD (.int .i64 0),.bool (asc s.ands (a,b)).isSome]) w :=
 h.ands.look ZiW (T:=65) Tryz.underlying65 _ ZcQ (a,b)
end Go.Proofs.YtemnmcfmabamcaaGreatDoor
namespace Go.Proofs.YtemnmcfmabamcaaGreatDoor
open Go Go.RowKit Go.Shelf
theorem Zph{nf:St→Nat→Option (Nat × St)}(hn:ZcA nf){B:Zar}{s s1:St}{w:World}{x y a b na c:Nat}(h:Rep B s w)(ho:Zqc x y a b)(ni:a≠0)(bT:a≠b)(lU:a≠1)(he:nf s a=some (na,s1))(lF:na≠b)(hc:asc s1.ands (a,b)=some c) :
  Calls Tryz.prog 74 #[.pointer (some ⟨B.sb,0,none⟩),.int .i64 x,.int .i64 y] w (ZaF [] (.int .i64 c) B s1 w):=by
 have d1:((a:Int) ==0)=false:=by simp;omega
 have d2:((a:Int) ==b)=false:=by simp;omega
 have d3:((a:Int) ==1)=false:=by simp;omega
 have d4:((na:Int) ==b)=false:=by simp;omega
 have hq:=hn B s s1 w a na h he;replace he:=Zrr he
 have zW:(decide ((y:Int)<x)=true∧y<x∧a=y∧b=x)∨(decide ((y:Int)<x)=false∧¬ y<x∧a=x∧b=y):=by
  rcases ho with ⟨h1,h2,h3⟩|⟨h1,h2,h3⟩
  ·exact .inl ⟨ZrI (by omega),h1,h2,h3⟩
  ·exact .inr ⟨ZrH (by omega),h1,h2,h3⟩
 clear ho;rcases zW with ⟨d0,iC,rfl,rfl⟩|⟨d0,iC,rfl,rfl⟩
 ·skip
  go_enter Tryz.func74,Tryz.ntmps74
  go_wp2_with fail;refine hq.mono ?_;rintro e w1 ⟨rfl,B1,aQ,cC⟩;have cK:B1.sb=B.sb:=cC.sb;have aC:=Zrz w1 (.cells #[.int .i64 a,.int .i64 b] 130);have aK:Ext w1 (w1.alloc (.cells #[.int .i64 a,.int .i64 b] 130)):=(Ext.refl w1).alloc _;clear hq;replace aQ:=Zrr aQ;go_wp2_with fail;generalize w1.alloc (.cells #[.int .i64 a,.int .i64 b] 130)=w2 at *;obtain⟨b0,b1⟩:=Zah aC
  have F1:∀w':World,Ext w2 w'→w'.cell? ⟨w1.heap.size,0,none⟩=some (.int .i64 a)∧w'.cell? ⟨w1.heap.size,1,none⟩=some (.int .i64 b)∧w'.cell? ⟨B.sb,4,none⟩=some (.map (some B1.ab)) ∧
    (Instr.lookup 65 (.map (some B1.ab)) (.agg #[.int .i64 (a:Int),.int .i64 (b:Int)]) true).run Tryz.prog w'= .ok (.tuple #[.int .i64 c,.bool true]) w':=fun w' fI=>by
   have hR:=aQ.out.below (aK.trans fI).below;obtain⟨cap,_,_,_,_,c4,_⟩:=hR.cells;rw[cK]at c4;have hl:=hR.andLook a b;rw[hc]at hl;exact⟨fI.cell b0,fI.cell b1,c4,hl⟩
  replace F1:=Zrr F1;replace hc:=Zrr hc;clear b0 b1 aC
  (refine Zaf (by kernel_rfl) (by kernel_rfl) ?_
   repeat (refine wpQuiet_step (fun K hK=>?_)
           go_simp
           first
            | (refine hK _ ?_;clear hK K)
            | (replace hK:=Zrr hK
               apply Exists.intro
               refine⟨fun wq hq=>?_,hK.out _ ?_⟩
               ·(obtain⟨f1,f2,f3,f4⟩:=F1.out wq hq)
                go_simp
                first
                 | done
                 | rfl
                 | exact⟨rfl,rfl⟩
                 | fail
               clear hK K))
   refine wpQuiet_nil ?_)
  intro w3 jR;go_wp2_with fail;go_ret;exact⟨rfl,B1,aQ.out.below (aK.trans jR).below,cC.then (Stp.of_below (aK.trans jR).below)⟩
 ·skip
  go_enter Tryz.func74,Tryz.ntmps74
  go_wp2_with fail;refine hq.mono ?_;rintro e w1 ⟨rfl,B1,aQ,cC⟩;have cK:B1.sb=B.sb:=cC.sb;have aC:=Zrz w1 (.cells #[.int .i64 a,.int .i64 b] 130);have aK:Ext w1 (w1.alloc (.cells #[.int .i64 a,.int .i64 b] 130)):=(Ext.refl w1).alloc _;clear hq;replace aQ:=Zrr aQ;go_wp2_with fail;generalize w1.alloc (.cells #[.int .i64 a,.int .i64 b] 130)=w2 at *;obtain⟨b0,b1⟩:=Zah aC
  have F1:∀w':World,Ext w2 w'→w'.cell? ⟨w1.heap.size,0,none⟩=some (.int .i64 a)∧w'.cell? ⟨w1.heap.size,1,none⟩=some (.int .i64 b)∧w'.cell? ⟨B.sb,4,none⟩=some (.map (some B1.ab)) ∧
    (Instr.lookup 65 (.map (some B1.ab)) (.agg #[.int .i64 (a:Int),.int .i64 (b:Int)]) true).run Tryz.prog w'= .ok (.tuple #[.int .i64 c,.bool true]) w':=fun w' fI=>by
   have hR:=aQ.out.below (aK.trans fI).below;obtain⟨cap,_,_,_,_,c4,_⟩:=hR.cells;rw[cK]at c4;have hl:=hR.andLook a b;rw[hc]at hl;exact⟨fI.cell b0,fI.cell b1,c4,hl⟩
  replace F1:=Zrr F1;replace hc:=Zrr hc;clear b0 b1 aC
  (refine Zaf (by kernel_rfl) (by kernel_rfl) ?_
   repeat (refine wpQuiet_step (fun K hK=>?_)
           go_simp
           first
            | (refine hK _ ?_;clear hK K)
            | (replace hK:=Zrr hK
               apply Exists.intro
               refine⟨fun wq hq=>?_,hK.out _ ?_⟩
               ·(obtain⟨f1,f2,f3,f4⟩:=F1.out wq hq)
                go_simp
                first
                 | done
                 | rfl
                 | exact⟨rfl,rfl⟩
                 | fail
               clear hK K))
   refine wpQuiet_nil ?_)
  intro w3 jR;go_wp2_with fail;go_ret;exact⟨rfl,B1,aQ.out.below (aK.trans jR).below,cC.then (Stp.of_below (aK.trans jR).below)⟩
end Go.Proofs.YtemnmcfmabamcaaGreatDoor
namespace Go.Proofs.YtemnmcfmabamcaaGreatDoor
open Go Go.RowKit Go.Shelf
theorem ZiF{B:Zar}{s:St}{w w':World}{base n:Nat}{v:Value}{xs:List Value}(h:Rep B s w)(hO:w.ownsRow base ZaN 2 v n xs)(hb:Zdm<base∧gTz<base)(hg:w.grownBy w' v.ownBlock)
  (aJ:∀g,v.ownBlock=some g→g∉B.eb) :
  Rep B s w'∧Stp v.ownBlock.toList B w B w'∧∀(k:Nat) (o:Obj),w.heap[k]? =some o→v.ownBlock≠some k→w'.heap[k]? =some o:=by
 have hk:∀(k:Nat) (o:Obj),w.heap[k]? =some o→v.ownBlock≠some k→w'.heap[k]? =some o:=fun k o ho hn=>(hg.block k (Zrv ho).1 (fun e=>hn e.symm)).trans ho
 refine⟨?_,Stp.of_but ⟨hg.os,hg.tape,hg.output⟩ hg.size (fun k hk hX=>hg.block k hk (fun e=>hX (by rw[←e];simp))),hk⟩;have eE:=fun k e=>Zay hO (k:=k) e
 obtain⟨_,⟨rfl,_⟩|⟨g,cap,cur,rfl,_,hh,_⟩⟩:=hO
 ·exact h.same fun k o ho=>(hk k o ho (by simp[Value.ownBlock])).trans ho.symm
 ·have h1:=eE g rfl
  refine h.off hh (aJ g rfl) (by omega) (fun k o hkg ho=>(hk k o ho ?_).trans ho.symm);simp only[Value.ownBlock];intro e;exact hkg (Option.some.inj e).symm
end Go.Proofs.YtemnmcfmabamcaaGreatDoor
namespace Go.Proofs.YtemnmcfmabamcaaGreatDoor
open Go Go.RowKit Go.Shelf
theorem Rep.plAt{B:Zar}{s:St}{w:World}(h:Rep B s w){a:Nat}{p:Nat}(hp:Zld s a=p):a<s.nodes.length∧w.cell? ⟨B.nb,a*5,none⟩=some (.int .i64 p):=by
 unfold Zld at hp
 split at hp
 ·rename_i n hn
  obtain⟨v,_,_,n0,_⟩:=h.node hn;rw[hp]at n0;exact⟨(Zrw hn).1,n0⟩
 ·omega
theorem Zcp.stp{B B':Zar}{s:St}{w w':World}{v:Value}{l:List (Nat × Nat)}(h:Zcp w v l)(hR:Rep B s w)(hS:Stp [] B w B' w'):Zcp w' v l :=
 h.same fun b c fz hb=>(hS.keep hb (hR.not_mut hb (by simp[ZaN,Zbd]) (by simp[ZaN,ZaD])) (by simp)).trans hb.symm
theorem Zdi(af:St→Nat→Nat→Option (Nat × St))(p:Nat × Nat):∀(r:List (Nat × Nat)) (s:St) (out:List (Nat × Nat)) (l:List (Nat × Nat)) (s':St),ZbS af p r s out=some (l,s')→out.length≤l.length
 | [],s,out,l,s',h=>by
   simp only[ZbS,ZrJ,Prod.mk.injEq]at h;rw[h.1];exact ZrQ _
 | q :: r,s,out,l,s',h=>by
   unfold ZbS at h
   split at h
   ·cases h
   ·split at h
    ·exact Zdi af p r _ _ _ _ h
    ·split at h
     ·cases h
     ·have:=Zdi af p r _ _ _ _ h
      simp at this;omega
theorem Zgh(af:St→Nat→Nat→Option (Nat × St))(right:List (Nat × Nat)):∀(r:List (Nat × Nat)) (s:St) (out:List (Nat × Nat)) (l:List (Nat × Nat)) (s':St),Zcd af right r s out=some (l,s')→out.length≤l.length
 | [],s,out,l,s',h=>by
   simp only[Zcd,ZrJ,Prod.mk.injEq]at h;rw[h.1];exact ZrQ _
 | q :: r,s,out,l,s',h=>by
   unfold Zcd at h
   split at h
   ·cases h
   ·rename_i o s1 h1
    exact ZrC (Zdi af q right _ _ _ _ h1) (Zgh af right r _ _ _ _ h)
def ZhA (w:World)(base:Nat)(ba:Option Addr)(l:List (Nat × Nat)):Prop:=(ba=none∧l=[])∨∃b o,ba=some ⟨b,o,none⟩∧b<base∧ZcU w b o ZaN (ZaO l)
theorem Zcp.rowsB{w:World}{ba:Option Addr}{n cp:Nat}{l:List (Nat × Nat)}(h:Zcp w (.slice ba n cp) l):n=l.length∧ZhA w w.heap.size ba l:=by
 obtain⟨pd,c,e,h⟩:=h
 cases e
 refine⟨rfl,?_⟩;rcases h with ⟨h1,h2,_⟩|⟨b,o,h1,h2⟩
 ·exact .inl ⟨h1,h2⟩
 ·exact .inr ⟨b,o,h1,h2.lt,h2⟩
theorem ZhA.same{w w':World}{base:Nat}{ba:Option Addr}{l:List (Nat × Nat)}(h:ZhA w base ba l)(hs:∀(k:Nat) (c:Array Value) (f:Nat × Nat),k<base→w.heap[k]? =some (Obj.cells c ZaN f)→w'.heap[k]? =w.heap[k]?):ZhA w' base ba l:=by
 rcases h with h|⟨b,o,h1,h2,c,f,h3,h4⟩
 ·exact .inl h
 ·exact .inr ⟨b,o,h1,h2,c,f,(hs b c f h2 h3).trans h3,h4⟩
theorem Zap{w:World}{B:Nat}{e:TypeId}{sz:Nat}{v:Value}{n:Nat}{xs:List Value}(h:w.ownsRow B e sz v n xs){k:Nat}(hk:v.ownBlock=some k):k<w.heap.size∧∃c,w.heap[k]? =some (.cells c e (0,0)):=by
 obtain⟨_,⟨rfl,_⟩|⟨g,cap,cur,rfl,hg,hh,_⟩⟩:=h
 ·simp[Value.ownBlock]at hk
 ·simp[Value.ownBlock]at hk
  subst hk;exact⟨(Zrv hh).1,cur,hh⟩
structure Zgc (B B':Zar) (w:World) (base:Nat) (bx:List (Nat × Nat × Nat)) (iS jE:Option Addr) (right left:List (Nat × Nat)) (sk:St) (out:List (Nat × Nat)) (v:Value) (wr:World):Prop where
 rep:Rep B' sk wr
 stp:Stp [] B w B' wr
 off:∀g,v.ownBlock=some g→g∉B'.eb
 box:∀x∈bx,wr.heap[x.1]? =some (.cells #[.int .i64 (x.2.1:Int),.int .i64 (x.2.2:Int)] ZaN (0,0))∧v.ownBlock≠some x.1
 bs:base≤wr.heap.size
 own:wr.ownsRow base ZaN 2 v out.length (ZaO out)
 r1:ZhA wr base iS right
 r2:ZhA wr base jE left
section
variable {B B' B'':Zar}{w wr w':World}{base:Nat}{bx:List (Nat × Nat × Nat)}{iS jE:Option Addr}{right left out:List (Nat × Nat)}{sk sk':St}{v:Value}
theorem Zgc.ext(h:Zgc B B' w base bx iS jE right left sk out v wr)(hx:Ext wr w'):Zgc B B' w base bx iS jE right left sk out v w' where
 rep:=h.rep.below hx.below
 stp:=h.stp.then (Stp.of_below hx.below)
 off:=h.off
 box:=fun x hm=>⟨(hx.below.block _ (Zrv (h.box x hm).1).1).trans (h.box x hm).1,(h.box x hm).2⟩
 bs:=ZrC h.bs hx.size
 own:=Zaa h.own (fun k hk=>hx.below.block k (Zap h.own hk).1)
 r1:=h.r1.same (fun k c f _ hk=>hx.below.block k (Zrv hk).1)
 r2:=h.r2.same (fun k c f _ hk=>hx.below.block k (Zrv hk).1)
theorem Zgc.call(h:Zgc B B' w base bx iS jE right left sk out v wr)(hR:Rep B'' sk' w')(hS:Stp [] B' wr B'' w'):Zgc B B'' w base bx iS jE right left sk' out v w':=by
 have hk:∀(k:Nat) (c:Array Value) (f:Nat × Nat),wr.heap[k]? =some (Obj.cells c ZaN f)→w'.heap[k]? =some (Obj.cells c ZaN f):=fun k c f hk =>
  hS.keep hk (h.rep.not_mut hk (by decide) (by decide)) (by simp)
 exact {
  rep:=hR
  stp:=h.stp.then hS
  off:=fun g hg hc=>by
   rcases hS.newe g hc with h1|h1|h1
   ·exact h.off g hg h1
   ·have:=(Zap h.own hg).1;omega
   ·simp at h1
  box:=fun x hm=>⟨hk _ _ _ (h.box x hm).1,(h.box x hm).2⟩
  bs:=ZrC h.bs hS.fr.size
  own:=Zaa h.own (fun k hb=>by
   obtain⟨_,c,hc⟩:=Zap h.own hb;exact(hk _ _ _ hc).trans hc.symm)
  r1:=h.r1.same (fun k c f _ hb=>(hk _ _ _ hb).trans hb.symm)
  r2:=h.r2.same (fun k c f _ hb=>(hk _ _ _ hb).trans hb.symm) }
theorem Zgc.boxed(h:Zgc B B' w base bx iS jE right left sk out v wr)(p:Nat × Nat):Zgc B B' w base ((wr.heap.size,p.1,p.2) :: bx) iS jE right left sk out v (wr.alloc (.cells #[.int .i64 (p.1:Int),.int .i64 (p.2:Int)] 130)):=by
 have h1:=h.ext ((Ext.refl wr).alloc (.cells #[.int .i64 (p.1:Int),.int .i64 (p.2:Int)] ZaN));refine { h1 with box:=fun x hm=>?_ };rcases List.mem_cons.1 hm with rfl|hm
 ·exact⟨Zrz wr _,fun e=>Nat.lt_irrefl _ (Zap h.own e).1⟩
 ·exact h1.box x hm
theorem Zgc.fewer{by_:List (Nat × Nat × Nat)}(h:Zgc B B' w base bx iS jE right left sk out v wr)(hs:∀x∈by_,x∈bx):Zgc B B' w base by_ iS jE right left sk out v wr :=
 { h with box:=fun x hm=>h.box x (hs x hm) }
theorem Zgc.tight(h:Zgc B B' w base bx iS jE right left sk out v wr):Zgc B { B' with eb:=B'.eb.filter (fun k=>decide (k<wr.heap.size)) } w base bx iS jE right left sk out v wr :=
 { h with
   rep:=h.rep.tight
   stp:=⟨h.stp.fr,h.stp.sb,h.stp.new,fun k hk=>h.stp.newe k (List.mem_filter.1 hk).1⟩
   off:=fun g hg hc=>h.off g hg (List.mem_filter.1 hc).1 }
theorem Zkw(l:List (Nat × Nat))(p:Nat × Nat):ZaO (l++[p])=ZaO l++[.int .i64 (p.1:Int),.int .i64 (p.2:Int)]:=by simp[ZaO]
theorem Zgc.push{p:Nat × Nat}{g cap:Nat}{w1:World}(h:Zgc B B' w base bx iS jE right left sk out v w1)(htb:∀k∈B'.eb,k<w1.heap.size)(hb:Zdm<base∧gTz<base)(hw:w.heap.size≤base)
  (ho:w'.ownsRow base ZaN 2 (.slice (some ⟨g,0,none⟩) (out.length+1) cap) (out.length+1) (ZaO out++[.int .i64 (p.1:Int),.int .i64 (p.2:Int)])) (hg:w1.grownBy w' v.ownBlock) (fU:v.ownBlock=some g∨g=w1.heap.size) :
  Zgc B B' w base bx iS jE right left sk (out++[p]) (.slice (some ⟨g,0,none⟩) (out.length+1) cap) w':=by
 obtain⟨hR,hS,hK⟩:=ZiF h.rep h.own hb hg h.off
 have aT:∀(k:Nat) (c:Array Value) (f:Nat × Nat),k<base→w1.heap[k]? =some (Obj.cells c ZaN f)→w'.heap[k]? =w1.heap[k]?:=fun k c f hk hc =>
  (hK _ _ hc (fun e=>by have:=Zay h.own e;omega)).trans hc.symm
 exact {
  rep:=hR
  stp:=(h.stp.trans hS).weak (fun x hx=>by
   simp only[List.nil_append,Option.mem_toList,Option.mem_def]at hx;exact .inr (ZrC hw (Zay h.own hx)))
  off:=fun k hk hc=>by
   simp only[Value.ownBlock,ZrJ]at hk;subst hk;rcases fU with e|e
   ·exact h.off _ e hc
   ·have:=htb _ hc;omega
  box:=fun x hm=>by
   obtain⟨b1,b2⟩:=h.box x hm;refine⟨hK _ _ b1 b2,fun e=>?_⟩;simp only[Value.ownBlock,ZrJ]at e;rcases fU with e2|e2
   ·exact b2 (by rw[e2,e])
   ·have:=(Zrv b1).1;omega
  bs:=ZrC h.bs hS.fr.size
  own:=Zak ho (by simp) (by rw[Zkw])
  r1:=h.r1.same aT
  r2:=h.r2.same aT }
theorem ZhA.at{l:List (Nat × Nat)}{ba:Option Addr}(h:ZhA w base ba l){k:Nat}(hk:k<l.length):∃b o,ba=some ⟨b,o,none⟩∧w.cell? ⟨b,o+k*2,none⟩=some (.int .i64 (l[k].1:Nat))∧w.cell? ⟨b,o+k*2+1,none⟩=some (.int .i64 (l[k].2:Nat)):=by
 rcases h with ⟨_,e⟩|⟨b,o,e,_,hr⟩
 ·rw[e]at hk;simp at hk
 ·obtain⟨c0,c1⟩:=hr.off0 k hk
  exact⟨b,o,e,c0,c1⟩
end
theorem Zcp.of_own{w:World}{base:Nat}{v:Value}{l:List (Nat × Nat)}(h:w.ownsRow base ZaN 2 v l.length (ZaO l)):Zcp w v l:=by
 obtain⟨_,⟨rfl,e⟩|⟨g,cap,cur,rfl,sX,jC,hn,hm,cA,ht⟩⟩:=h
 ·have hl:l=[]:=List.eq_nil_of_length_eq_zero (by omega)
  subst hl;exact⟨none,0,rfl,.inl ⟨rfl,rfl,rfl⟩⟩
 ·refine⟨some ⟨g,0,none⟩,cap,rfl,.inr ⟨g,0,rfl,cur,(0,0),jC,fun j u hj=>?_⟩⟩
  rw[←ht,List.getElem?_take]at hj
  split at hj
  ·rw[Nat.zero_add];simpa using hj
  ·cases hj
theorem ZgC{g:St→Nat→Option (Nat × St)}{B:Zar}{s s1:St}{w:World}{a pl:Nat}{l:List (Nat × Nat)}(h:Rep B s w)(he:Zdf g s a pl=some (l,s1)):l.length≤1048576:=by
 unfold Zdf at he
 split at he
 ·cases he
 rename_i n hn
 have fw:=(h.small.2 n (List.mem_of_getElem? hn)).2.2.2.2.1
 split at he
 ·cases he;exact fw
 split at he
 ·cases he
 split at he
 ·cases he
 split at he
 ·split at he
  ·cases he
  ·cases he;simp
 ·cases he;simp
def ZoN (af:St→Nat→Nat→Option (Nat × St))(B:Zar)(w:World)(base:Nat)(bx:List (Nat × Nat × Nat))(iS jE:Option Addr)(right left:List (Nat × Nat))(fin:List (Nat × Nat) × St)(k:Nat)(v:Value)(wr:World):Prop :=
 ∃B' sk out,Zgc B B' w base bx iS jE right left sk out v wr∧Zcd af right (left.drop k) sk out=some fin
def Zqj (af:St→Nat→Nat→Option (Nat × St))(B:Zar)(w:World)(base:Nat)(bx:List (Nat × Nat × Nat))(iS jE:Option Addr)(right left:List (Nat × Nat))(p:Nat × Nat)(k:Nat)(fin:List (Nat × Nat) × St)(j:Nat)(v:Value)(wr:World):Prop :=
 ∃B' sk out iJ s',Zgc B B' w base bx iS jE right left sk out v wr∧ZbS af p (right.drop j) sk out=some (iJ,s')∧Zcd af right (left.drop (k+1)) s' iJ=some fin
theorem Zis{af:St→Nat→Nat→Option (Nat × St)}{p q:Nat × Nat}{r out:List (Nat × Nat)}{s:St}{fin:List (Nat × Nat) × St}(h:ZbS af p (q :: r) s out=some fin) :
  (∃s1,af s p.1 q.1=some (0,s1)∧ZbS af p r s1 out=some fin)∨(∃pr s1 su s2,af s p.1 q.1=some (pr,s1)∧pr≠0∧af s1 p.2 q.2=some (su,s2)∧ZbS af p r s2 (out++[(pr,su)])=some fin):=by
 unfold ZbS at h
 split at h
 ·cases h
 ·rename_i pr s1 h1
  split at h
  ·rename_i h0
   subst h0;exact .inl ⟨s1,h1,h⟩
  ·rename_i h0
   split at h
   ·cases h
   ·rename_i su s2 h2
    exact .inr ⟨pr,s1,su,s2,h1,h0,h2,h⟩
theorem Ziq{af:St→Nat→Nat→Option (Nat × St)}{right:List (Nat × Nat)}{p:Nat × Nat}{r out:List (Nat × Nat)}{s:St}{fin:List (Nat × Nat) × St}(h:Zcd af right (p :: r) s out=some fin) :
  ∃iJ s',ZbS af p right s out=some (iJ,s')∧Zcd af right r s' iJ=some fin:=by
 unfold Zcd at h
 split at h
 ·cases h
 ·rename_i o s1 h1
  exact⟨o,s1,h1,h⟩
end Go.Proofs.YtemnmcfmabamcaaGreatDoor
namespace Go.Proofs.YtemnmcfmabamcaaGreatDoor
open Go Go.RowKit Go.Shelf
theorem Zpj{nf:St→Nat→Option (Nat × St)}{af:St→Nat→Nat→Option (Nat × St)}(hn:ZcA nf)(ih:Zeh af){B:Zar}{s s1 s':St}{w:World}{x y a b na c:Nat}(h:Rep B s w)(ho:Zqc x y a b)(ni:a≠0)(bT:a≠b)(lU:a≠1)(he:nf s a=some (na,s1))(lF:na≠b)(hc:asc s1.ands (a,b)=none)
  (dW:ZhC nf af s1 a b=some (c,s')) :
  Calls Tryz.prog 74 #[.pointer (some ⟨B.sb,0,none⟩),.int .i64 x,.int .i64 y] w (ZaF [] (.int .i64 c) B s' w):=by
 unfold ZhC at dW
 split at dW
 ·cases dW
 rename_i pl ki
 split at dW
 ·cases dW
 rename_i right s2 iG
 split at dW
 ·cases dW
 rename_i left s3 rZ
 split at dW
 ·cases dW
 rename_i l s4 az
 split at dW
 ·cases dW
 rename_i c' s5 iO
 simp only[ZrJ,Prod.mk.injEq]at dW;obtain⟨rfl,rfl⟩:=dW;obtain⟨jw,p,q,e1,e2,gH,bX,rfl⟩:=ZbY ki;have d1:((a:Int) ==0)=false:=by simp;omega
 have d2:((a:Int) ==b)=false:=by simp;omega
 have d3:((a:Int) ==1)=false:=by simp;omega
 have d4:((na:Int) ==b)=false:=by simp;omega
 have hq:=hn B s s1 w a na h he;replace he:=Zrr he;replace iG:=Zrr iG;replace rZ:=Zrr rZ;replace az:=Zrr az;replace iO:=Zrr iO;replace e1:=Zrr e1;replace e2:=Zrr e2;replace ki:=Zrr ki
 have zW:(decide ((y:Int)<x)=true∧y<x∧a=y∧b=x)∨(decide ((y:Int)<x)=false∧¬ y<x∧a=x∧b=y):=by
  rcases ho with ⟨h1,h2,h3⟩|⟨h1,h2,h3⟩
  ·exact .inl ⟨ZrI (by omega),h1,h2,h3⟩
  ·exact .inr ⟨ZrH (by omega),h1,h2,h3⟩
 clear ho h;rcases zW with ⟨d0,iC,rfl,rfl⟩|⟨d0,iC,rfl,rfl⟩
 all_goals
  go_enter Tryz.func74,Tryz.ntmps74
  go_wp2_with fail;refine hq.mono ?_;rintro e w1 ⟨rfl,B1,aQ,cC⟩;have cK:B1.sb=B.sb:=cC.sb;have aC:=Zrz w1 (.cells #[.int .i64 a,.int .i64 b] 130);have aK:Ext w1 (w1.alloc (.cells #[.int .i64 a,.int .i64 b] 130)):=(Ext.refl w1).alloc _;clear hq;replace aQ:=Zrr aQ;go_wp2_with fail;generalize w1.alloc (.cells #[.int .i64 a,.int .i64 b] 130)=w2 at *;obtain⟨b0,b1⟩:=Zah aC
  have F1:∀w':World,Ext w2 w'→w'.cell? ⟨w1.heap.size,0,none⟩=some (.int .i64 a)∧w'.cell? ⟨w1.heap.size,1,none⟩=some (.int .i64 b)∧w'.cell? ⟨B.sb,4,none⟩=some (.map (some B1.ab)) ∧
    (Instr.lookup 65 (.map (some B1.ab)) (.agg #[.int .i64 (a:Int),.int .i64 (b:Int)]) true).run Tryz.prog w'= .ok (.tuple #[.int .i64 0,.bool false]) w':=fun w' fI=>by
   have hR:=aQ.out.below (aK.trans fI).below;obtain⟨cap,_,_,_,_,c4,_⟩:=hR.cells;rw[cK]at c4;have hl:=hR.andLook a b;rw[hc]at hl;exact⟨fI.cell b0,fI.cell b1,c4,hl⟩
  replace F1:=Zrr F1;replace hc:=Zrr hc;replace aC:=Zrr aC;clear b0 b1
  (refine Zaf (by kernel_rfl) (by kernel_rfl) ?_
   repeat (refine wpQuiet_step (fun K hK=>?_)
           go_simp
           first
            | (refine hK _ ?_;clear hK K)
            | (replace hK:=Zrr hK
               apply Exists.intro
               refine⟨fun wq hq=>?_,hK.out _ ?_⟩
               ·(obtain⟨f1,f2,f3,f4⟩:=F1.out wq hq)
                go_simp
                first
                 | done
                 | rfl
                 | exact⟨rfl,rfl⟩
                 | fail
               clear hK K))
   refine wpQuiet_nil ?_)
  intro w3 jR;clear F1;have cX:=aQ.out.below (aK.trans jR).below;obtain⟨cap,ct,_,cn,_,_,_⟩:=cX.cells;rw[cK]at ct cn;obtain⟨ai,na0⟩:=cX.plAt e1.out;obtain⟨bi,nb0⟩:=cX.plAt e2.out;have ga0:(0:Int)≤a:=by omega
  have qI:(a:Int)<s1.nodes.length:=by omega
  have gb0:(0:Int)≤b:=by omega
  have gb1:(b:Int)<s1.nodes.length:=by omega
  go_wp2_with fail
  have F2:∀w':World,Ext w3 w'→w'.cell? ⟨B.sb,0,none⟩=some (.slice (some ⟨B1.tb,0,none⟩) s1.tree.length B1.tc)∧w'.cell? ⟨B.sb,2,none⟩=some (.slice (some ⟨B1.nb,0,none⟩) s1.nodes.length cap)∧w'.cell? ⟨B1.nb,a*5,none⟩=some (.int .i64 p)∧w'.cell? ⟨B1.nb,b*5,none⟩=some (.int .i64 q) :=
   fun w' fI=>⟨fI.cell ct,fI.cell cn,fI.cell na0,fI.cell nb0⟩
  replace F2:=Zrr F2;have fy:=Zrr cX.treeAt;replace cX:=Zrr cX;replace jw:=Zrr jw;clear ct cn na0 nb0
  (refine Zaf (by kernel_rfl) (by kernel_rfl) ?_
   repeat (refine wpQuiet_step (fun K hK=>?_)
           go_simp
           first
            | (refine hK _ ?_;clear hK K)
            | (replace hK:=Zrr hK
               apply Exists.intro
               refine⟨fun wq hq=>?_,hK.out _ ?_⟩
               ·(obtain⟨f1,f2,f3,f4⟩:=F2.out wq hq)
                go_simp
                first
                 | done
                 | rfl
                 | exact⟨rfl,rfl⟩
                 | (refine(Zg6 wq B1.tb 0 B1.tc (fy.out.ext hq) jw.out p q gH bX).mono ?_;rintro e w' ⟨rfl,hb⟩;exact⟨rfl,hq.trans hb⟩)
               clear hK K))
   refine wpQuiet_nil ?_)
  intro w4 mE;clear F2;have gY:=cX.out.below mE.below;have dK:Stp [] B w B1 w4:=cC.then (Stp.of_below ((aK.trans jR).trans mE).below)
  have dR:=ZgB hn gY iG.out;rw[cK]at dR;have kQ:=((jR.trans mE).below.block _ (Zrv aC.out).1).trans aC.out;replace kQ:=Zrr kQ;replace gY:=Zrr gY;go_wp2_with fail;refine dR.mono ?_;rintro e w5 ⟨v1,rfl,hE1,B2,gZ,bO⟩;have bX:=ZgB hn gZ rZ.out;have zg:=ZgC gY.out iG.out;have lC:=ZgC gZ rZ.out;rw[bO.sb,cK]at bX;have kR:=bO.keep kQ.out (gY.out.not_mut kQ.out (by decide) (by decide)) (by simp);replace kR:=Zrr kR;replace hE1:=Zrr hE1;replace gZ:=Zrr gZ;clear dR;go_wp2_with fail;refine bX.mono ?_;rintro e w6 ⟨v2,rfl,kE,B3,du,fd⟩;have te:=hE1.out.stp gZ.out fd;have jV:=fd.keep kR.out (gZ.out.not_mut kR.out (by decide) (by decide)) (by simp);have gL:Stp [] B w B3 w6:=(dK.then bO).then fd
  clear bX;obtain⟨iS,cp1,rfl,_⟩:=id te;obtain⟨jE,cp2,rfl,_⟩:=id kE;obtain⟨_,pI⟩:=te.rowsB;obtain⟨_,tF⟩:=kE.rowsB;have bI:Zdm<w6.heap.size∧gTz<w6.heap.size:=⟨du.pow.lt,du.tz.lt'⟩;have pY:w.heap.size≤w6.heap.size:=gL.fr.size
  have aX:l.length≤1048576:=by
   have:=iO.out;unfold ZkJ at this
   by_cases hl:l.length≤1048576
   ·exact hl
   ·simp[hl]at this
  have aY:Hid (ZoN af B w w6.heap.size [(w1.heap.size,a,b)] iS jE right left (l,s4) 0 (.slice none 0 0) w6):=Zrr
   ⟨B3,s3,[],⟨du,gL,fun g hg=>by simp[Value.ownBlock]at hg,fun x hx=>by simp at hx;subst hx;exact⟨jV,by simp[Value.ownBlock]⟩,ZrQ _,World.ownsRow_nil _ _ _ _,pI,tF⟩,az.out⟩
  obtain⟨ip,hip,hpz,uu,fW⟩:=info_parts Zfx;replace bI:=Zrr bI;clear te kE hE1 du gL pI tF jV kR kQ aC gZ fd bO dK gY cX aQ cC az aK jR mE;go_wp2_with fail;generalize w6.heap.size=base at *;generalize w1.heap.size=kb at *
  go_loopw [11,87] (fun v i wr=>∃k:Nat,k≤left.length∧i= .int .i64 k∧Hid (ZoN af B w base [(kb,a,b)] iS jE right left (l,s4) k v wr))
   (fun _ i _=>left.length - (intOf i).toNat)
  case atStart=>exact⟨0,Nat.zero_le _,rfl,aY⟩
  case round =>
   clear aY;obtain⟨k,hk,rfl,hI⟩:=hrel;obtain⟨B4,sk,out,hC,lV⟩:=hI.out;clear hI
   by_cases aD:k<left.length
   ·rw[List.drop_eq_getElem_cons aD]at lV
    obtain⟨vb,vo,rfl,e0,e1⟩:=hC.r2.at aD;generalize left[k]=p at *;obtain⟨p1,p2⟩:=p;simp only at e0 e1;obtain⟨iJ,s',aT,bE⟩:=Ziq lV;have hB:=hC.boxed (p1,p2);have og:Hid (Zqj af B w base [(wr.heap.size,p1,p2),(kb,a,b)] iS (some ⟨vb,vo,none⟩) right left (p1,p2) k (l,s4) 0 u11 (wr.alloc (.cells #[.int .i64 (p1:Int),.int .i64 (p2:Int)] 130))):=Zrr ⟨B4,sk,out,iJ,s',hB,aT,bE⟩;clear hB aT bE lV;have fk:=hC.bs;clear hC;go_wp2_with fail;generalize wr.alloc (.cells #[.int .i64 (p1:Int),.int .i64 (p2:Int)] 130)=wi at *;generalize wr.heap.size=pb at *
    go_loopw [11,93] (fun v i wr=>∃j:Nat,j≤right.length∧i= .int .i64 j∧Hid (Zqj af B w base [(pb,p1,p2),(kb,a,b)] iS (some ⟨vb,vo,none⟩) right left (p1,p2) k (l,s4) j v wr))
     (fun _ i _=>right.length - (intOf i).toNat)
    case atStart=>exact⟨0,Nat.zero_le _,rfl,og⟩
    case round =>
     clear og;obtain⟨j,hj,rfl,hI⟩:=hrel;obtain⟨B5,sk5,jA,iJ,s',hC,aT,bE⟩:=hI.out;clear hI
     by_cases hjt:j<right.length
     ·rw[List.drop_eq_getElem_cons hjt]at aT
      obtain⟨rb,ro,rfl,e0,e1⟩:=hC.r1.at hjt;generalize right[j]=q at *;obtain⟨q1,q2⟩:=q;simp only at e0 e1;have cL:=hC.boxed (q1,q2);obtain⟨p0,vW⟩:=Zah (cL.box (pb,p1,p2) (by simp)).1;obtain⟨q0,q1'⟩:=Zah (cL.box (_,q1,q2) (ZrL ..)).1;simp only at p0 vW q0 q1';have pR:B5.sb=B.sb:=cL.stp.sb;rcases Zis aT with ⟨s6,h1,fG⟩|⟨pr,s6,su,s7,h1,gq,h2,fG⟩
      ·have c1:=ih B5 sk5 s6 _ p1 q1 0 cL.rep h1
       rw[pR]at c1;clear aT hC;replace fG:=Zrr fG;replace bE:=Zrr bE;replace h1:=Zrr h1;replace cL:=Zrr cL;go_wp2_with fail;generalize wr.alloc (.cells #[.int .i64 (q1:Int),.int .i64 (q2:Int)] 130)=w7 at *;refine c1.mono ?_;rintro e w8 ⟨rfl,B6,du,fd⟩;have fK:=(cL.out.call du fd).fewer (by_:=[(pb,p1,p2),(kb,a,b)]) (by simp);replace du:=Zrr du;go_wp2_with fail;go_roundw
       case rel=>exact⟨j+1,by omega,by go_num,Zrr ⟨B6,s6,jA,iJ,s',fK,fG.out,bE.out⟩⟩
       case measure=>simp[intOf];omega
      ·have c1:=ih B5 sk5 s6 _ p1 q1 pr cL.rep h1
       rw[pR]at c1;have nQ:((pr:Int) !=0)=true:=by simp;omega
       have hpn0:((pr:Int) ==0)=false:=by simp;omega
       clear aT hC;have hple:=Zdi _ _ _ _ _ _ _ fG;have hple2:=Zgh _ _ _ _ _ _ _ bE;replace fG:=Zrr fG;replace bE:=Zrr bE;replace h1:=Zrr h1;replace h2:=Zrr h2;replace cL:=Zrr cL;go_wp2_with fail;generalize wr.alloc (.cells #[.int .i64 (q1:Int),.int .i64 (q2:Int)] 130)=w7 at *;refine c1.mono ?_;rintro e w8 ⟨rfl,B6,du,fd⟩;have fK:=cL.out.call du fd;obtain⟨p0',p1''⟩:=Zah (fK.box (pb,p1,p2) (by simp)).1;obtain⟨q0',q1''⟩:=Zah (fK.box (_,q1,q2) (ZrL ..)).1;simp only at p0' p1'' q0' q1'';have c2:=ih B6 s6 s7 w8 p2 q2 su du h2.out;rw[fd.sb,pR]at c2;clear c1 p0 vW q0 q1';replace du:=Zrr du;replace fK:=Zrr fK;go_wp2_with fail;refine c2.mono ?_;rintro e w9 ⟨rfl,B7,lO,fT⟩;have kD:=((fK.out.call lO fT).tight).fewer (by_:=[(pb,p1,p2),(kb,a,b)]) (by simp);have hZ:=kD.ext ((Ext.refl w9).alloc (.cells #[.int .i64 (pr:Int),.int .i64 (su:Int)] 130));have aH:Hid (∀u∈([.int .i64 (pr:Int),.int .i64 (su:Int)]:List Value),u.oneCell'=true):=Zrr (by intro u hu;simp at hu;rcases hu with rfl|rfl <;> rfl);have cz:jA.length+1≤1048576:=by simp at hple;omega
       have hbs5:=hZ.bs;clear c2 p0' p1'' q0' q1'';replace lO:=Zrr lO;replace kD:=Zrr kD;replace hZ:=Zrr hZ
       go_wp2_with (at_builtin;refine wpList_append_lies _ rfl _ _ 99 rfl base 130 ip _ 2 16 Tryz.underlying99 hip hpz uu fW rfl (by decide) _ jA.length (ZaO jA) rfl hZ.out.own ⟨w9.heap.size,0,none⟩ 1 1 [.int .i64 (pr:Int),.int .i64 (su:Int)] rfl rfl (World.news_of_block (cs:=#[.int .i64 (pr:Int),.int .i64 (su:Int)]) (t:=130) (fr:=(0,0)) (Zrz w9 _)) aH.out (by omega) (by unfold maxLen;omega) (by omega) hbs5 _ rfl ?_;intro g9 cap9 jB ho9 hg9 hat9 _)
       have cM:=hZ.out.push (p:=(pr,su)) (w':=jB) (fun k hk=>ZrD (by simpa using (List.mem_filter.1 hk).2) (Below.size (Below.alloc (ZrE _ w9) (ZrQ _) _))) bI.out pY ho9 hg9 hat9;go_roundw
       case rel=>exact⟨j+1,by omega,by go_num,Zrr ⟨_,s7,jA++[(pr,su)],iJ,s',cM,fG.out,bE.out⟩⟩
       case measure=>simp[intOf];omega
     ·obtain rfl:j=right.length:=by omega
      simp only[List.drop_length,ZbS,ZrJ,Prod.mk.injEq]at aT;obtain⟨rfl,rfl⟩:=aT;have cL:=hC.fewer (by_:=[(kb,a,b)]) (by simp);replace bE:=Zrr bE;replace hC:=Zrr hC;replace cL:=Zrr cL;go_wp2_with fail;go_roundw
      case rel=>exact⟨k+1,by omega,by go_num,Zrr ⟨B5,_,_,cL.out,bE.out⟩⟩
      case measure=>simp[intOf];omega
   ·obtain rfl:k=left.length:=by omega
    simp only[List.drop_length,Zcd,ZrJ,Prod.mk.injEq]at lV;obtain⟨rfl,rfl⟩:=lV;have mt:=Zcp.of_own hC.own;have hq9:=Zoa (Zmq hn ih) hC.rep mt iO.out;rw[hC.stp.sb]at hq9;obtain⟨gD,_⟩:=hC.box (kb,a,b) (by simp);have hnmk:=hC.rep.not_mut gD (by decide) (by decide);have xu:=hC.stp;replace gD:=Zrr gD;replace hC:=Zrr hC;replace mt:=Zrr mt;go_wp2_with fail;refine hq9.mono ?_;rintro e w7 ⟨rfl,B7,lO,fT⟩;obtain⟨k0,k1⟩:=Zah (fT.keep gD.out hnmk (by simp));obtain⟨_,_,_,_,_,c4,_⟩:=lO.cells;rw[fT.sb,xu.sb]at c4;have tn:Rep B7 s5 w7.drew:=lO.same fun _ _ _=>rfl
    have f4:w7.drew.cell? ⟨B.sb,4,none⟩=some (.map (some B7.ab)):=c4;have f0:w7.drew.cell? ⟨kb,0,none⟩=some (.int .i64 a):=k0;have f1:w7.drew.cell? ⟨kb,1,none⟩=some (.int .i64 b):=k1
    have iQ:(Instr.mapUpdate 65 (.map (some B7.ab)) (.agg #[.int .i64 a,.int .i64 b]) (.int .i64 c')).run Tryz.prog w7.drew= .ok () (Zas 130 Tryz.prog w7.drew B7.ab (Zf9 (a,b)) (Zad c')) :=
     (tn.ands.put ZiW (T:=65) Tryz.underlying65 (a,b) c').1
    have fZ:=tn.putA (a,b) c'
    have iA:Stp [] B w B7 (Zas 130 Tryz.prog w7.drew B7.ab (Zf9 (a,b)) (Zad c')) :=
     ((xu.then fT).then (Stp.of_below (X:=[]) ((ZrE _ w7).drew))).then (Zgw _ _ (by simp[Zar.mut]) _ _)
    generalize Zas 130 Tryz.prog w7.drew B7.ab (Zf9 (a,b)) (Zad c')=w9 at *;replace fZ:=Zrr fZ;replace tn:=Zrr tn;replace lO:=Zrr lO;clear c4 k0 k1;go_wp2_with fail
    go_region_law (fail)
    all_goals
     go_wp2_with fail;go_ret;exact⟨rfl,B7,fZ.out,iA⟩
end Go.Proofs.YtemnmcfmabamcaaGreatDoor
namespace Go.Proofs.YtemnmcfmabamcaaGreatDoor
open Go Go.RowKit Go.Shelf
theorem Zgj{nf:St→Nat→Option (Nat × St)}{af:St→Nat→Nat→Option (Nat × St)}(hn:ZcA nf)(ih:Zeh af){B:Zar}{s s':St}{w:World}{x y a b r:Nat}(h:Rep B s w)(ho:Zqc x y a b)(he:Zgi nf af s a b=some (r,s')) :
  Calls Tryz.prog 74 #[.pointer (some ⟨B.sb,0,none⟩),.int .i64 x,.int .i64 y] w (ZaF [] (.int .i64 r) B s' w):=by
 unfold Zgi at he
 split at he
 ·rename_i hc
  cases he
  exact ZnC h ho hc
 rename_i hc
 have ni:a≠0:=fun e=>hc (.inl e)
 have bT:a≠b:=fun e=>hc (.inr e)
 split at he
 ·rename_i h1
  cases he
  subst h1;exact Zpk h ho (fun e=>bT e.symm)
 rename_i lU
 split at he
 ·cases he
 rename_i na s1 lF
 split at he
 ·rename_i h2
  cases he
  subst h2;exact Zpi hn h ho ni bT lU lF
 rename_i jp
 split at he
 ·rename_i c fM
  cases he
  exact Zph hn h ho ni bT lU lF jp fM
 ·rename_i fM
  exact Zpj hn ih h ho ni bT lU lF jp fM he
theorem Zjv(f:Nat):Zeh (Zlc f):=by
 induction f with
 | zero=>intro B s s' w a b r h he;cases he
 | succ f ih =>
   intro B s s' w a b r h he;unfold Zlc at he
   split at he
   ·rename_i hc
    exact Zgj (Zg8 f) ih h (.inl ⟨hc,rfl,rfl⟩) he
   ·rename_i hc
    exact Zgj (Zg8 f) ih h (.inr ⟨hc,rfl,rfl⟩) he
end Go.Proofs.YtemnmcfmabamcaaGreatDoor
