import Derived.Test.YtmnjakejhbpkoaaGreatDoorVRep
import Derived.Deep.AppendLies
set_option linter.unusedSimpArgs false
set_option linter.unusedVariables false
set_option maxRecDepth 100000
set_option maxHeartbeats 2000000
namespace Go.Proofs.YtmnjakejhbpkoaaGreatDoor
open Go Go.RowKit Go.Shelf
def ZaB (X:List Nat)(v:Value)(B:Zas)(s':St)(w:World)(e:Ending)(w':World):Prop:=e= .returned v∧∃B',Rep B' s' w'∧Stp X B w B' w'
theorem ZkR:(Tryz.prog.info? 158).map (fun i=>(i.zero,i.size,i.bytes))=some (some (.agg #[.int .i64 0,.int .i64 0,.slice none 0 0,.int .u64 0,.int .u64 0]),5,56):=by kernel_rfl
theorem Zcn(w:World):(zeroValue 3).run Tryz.prog w= .ok (.int .i64 0) w:=by kernel_rfl
theorem ZhX:Zcx Tryz.prog 9 Zdl:=ZmY Tryz.underlying9 Zce ZgW
theorem Zcy.form{w:World}{nv:Value}{nb:Nat}{ns:List Zaf}{vs:List Value}(h:Zcy w nv nb ns vs):∃cap,nv= .slice (some ⟨nb,0,none⟩) ns.length cap:=by
 obtain⟨_,h1|⟨g,cap,cur,hv,hg,hh,r⟩⟩:=h.own
 ·have:=h.blk;rw[h1.1]at this;simp[Value.ownBlock]at this
 ·have:=h.blk
  rw[hv]at this;simp[Value.ownBlock]at this;subst this;exact⟨cap,hv⟩
theorem Zm6{B:Zas}{s:St}{w:World}{n:Zaf}{v:Value}{i:Nat}(h:Rep B s w)(hv:ZcM w v n.el)(hn:Zdu n)(hu:asc s.uniq (n.pl,n.lit,n.el)=some i) :
  Calls Tryz.prog 202 #[.pointer (some ⟨B.sb,0,none⟩),.agg #[.int .i64 n.pl,.int .i64 n.lit,v,.int .u64 (lo n.le),.int .u64 (hi n.le)]] w (ZaB v.ownBlock.toList (.int .i64 i) B s w):=by
 obtain⟨a1,a2,a3,a4,a5,a6⟩:=hn;have ao:Below w.heap.size w (w.alloc (.cells #[.int .i64 n.pl,.int .i64 n.lit,v,.int .u64 (lo n.le),.int .u64 (hi n.le)] 158)):=(Zpr _ w).alloc (ZpD _) _;have hk:=ZkU n.pl n.lit n.el v (lo n.le) (hi n.le) _ ((h.below ao).pow) ((hv.same (fun b c fz hb=>ao.block b (Zpi hb).1)).slp) ⟨a5,a6⟩ a1 a2 a3 a4
 go_enter Tryz.func202,Tryz.ntmps202
 go_wp2_with fail;refine hk.mono ?_;rintro e w2 ⟨rfl,aP⟩;have fN:Below w.heap.size w w2:=ao.trans (aP.mono (by simp));have h2:=h.below fN;obtain⟨nv,vs,aW,bu,ob⟩:=h2.store;obtain⟨cap,rfl⟩:=bu.form;have c2:w2.cell? ⟨B.sb,3,none⟩=some (.map (some B.ub)):=by simp[World.cell?,aW]
 have az:=h2.uniq.look ZhX (T:=160) Tryz.underlying160 _ Zcn (n.pl,n.lit,n.el);rw[hu]at az;have eG:(Instr.lookup 160 (.map (some B.ub)) (.string ⟨(ZgV n.pl n.lit n.el).toArray⟩) true).run Tryz.prog w2= .ok (.tuple #[.int .i64 i,.bool true]) w2:=az;clear az hk aW hu;go_wp2_with fail;go_ret;exact⟨rfl,B,h2,Stp.of_below fN⟩
theorem Zm7{B:Zas}{s:St}{w:World}{n:Zaf}{v:Value}(h:Rep B s w)(hv:ZcM w v n.el)(hn:Zdu n)(hu:asc s.uniq (n.pl,n.lit,n.el)=none)(hl:s.nodes.length<1048576) :
  Calls Tryz.prog 202 #[.pointer (some ⟨B.sb,0,none⟩),.agg #[.int .i64 n.pl,.int .i64 n.lit,v,.int .u64 (lo n.le),.int .u64 (hi n.le)]] w (ZaB v.ownBlock.toList (.int .i64 s.nodes.length) B { s with nodes:=s.nodes++[n],uniq:=((n.pl,n.lit,n.el),s.nodes.length) :: s.uniq } w):=by
 obtain⟨i0,cX,bB,ak,bE⟩:=info_parts ZkR;obtain⟨a1,a2,a3,a4,a5,a6⟩:=hn;have ao:Below w.heap.size w (w.alloc (.cells #[.int .i64 n.pl,.int .i64 n.lit,v,.int .u64 (lo n.le),.int .u64 (hi n.le)] 158)):=(Zpr _ w).alloc (ZpD _) _;have hk:=ZkU n.pl n.lit n.el v (lo n.le) (hi n.le) _ ((h.below ao).pow) ((hv.same (fun b c fz hb=>ao.block b (Zpi hb).1)).slp) ⟨a5,a6⟩ a1 a2 a3 a4;have aK:=Zpm w (.cells #[.int .i64 n.pl,.int .i64 n.lit,v,.int .u64 (lo n.le),.int .u64 (hi n.le)] 158)
 go_enter Tryz.func202,Tryz.ntmps202
 go_wp2_with fail;refine hk.mono ?_;rintro e w2 ⟨rfl,aP⟩;have fN:Below w.heap.size w w2:=ao.trans (aP.mono (by simp));have fe:=(aP.block w.heap.size (by simp)).trans aK;have h2:=h.below fN;obtain⟨nv,vs,aW,bu,ob⟩:=h2.store;obtain⟨cap,rfl⟩:=bu.form;have c2:w2.cell? ⟨B.sb,3,none⟩=some (.map (some B.ub)):=by simp[World.cell?,aW]
 have c3:w2.cell? ⟨B.sb,2,none⟩=some (.slice (some ⟨B.nb,0,none⟩) s.nodes.length cap):=by simp[World.cell?,aW]
 have az:=h2.uniq.look ZhX (T:=160) Tryz.underlying160 _ Zcn (n.pl,n.lit,n.el);rw[hu]at az;have eG:(Instr.lookup 160 (.map (some B.ub)) (.string ⟨(ZgV n.pl n.lit n.el).toArray⟩) true).run Tryz.prog w2= .ok (.tuple #[.int .i64 0,.bool false]) w2:=az;have b0:w2.cell? ⟨w.heap.size,0,none⟩=some (.int .i64 n.pl):=by simp[World.cell?,fe]
 have b1:w2.cell? ⟨w.heap.size,1,none⟩=some (.int .i64 n.lit):=by simp[World.cell?,fe]
 have b2:w2.cell? ⟨w.heap.size,2,none⟩=some v:=by simp[World.cell?,fe]
 have b3:w2.cell? ⟨w.heap.size,3,none⟩=some (.int .u64 (lo n.le)):=by simp[World.cell?,fe]
 have b4:w2.cell? ⟨w.heap.size,4,none⟩=some (.int .u64 (hi n.le)):=by simp[World.cell?,fe]
 have fz2:w2.frozen? ⟨B.sb,2,none⟩=false:=by simp[World.frozen?,aW]
 have aH:((s.nodes.length:Int) ==1048576)=false:=by simp;omega
 replace aW:=Zpe aW;clear az hk hu aK fe;go_wp2_with fail
 have dX:∀u∈[.int .i64 n.pl,.int .i64 n.lit,v,.int .u64 (lo n.le),.int .u64 (hi n.le)],Value.oneCell' u=true:=by
  obtain⟨ba,c,rfl,_⟩:=hv;intro u hu;simp at hu;rcases hu with rfl|rfl|rfl|rfl|rfl <;> rfl
 have nU:B.nb≠B.sb:=by
  intro e;obtain⟨c,hc⟩:=bu.nbk;rw[e,aW.out]at hc;simp[ZaU,Za6]at hc
 have hnbw:B.nb≠w.heap.size:=by
  have:=h.mut_old B.nb (by simp[Zas.mut]);omega
 replace dX:=Zpe dX;have ne1:=World.new_ne w2 _ c3;have ne2:=World.new_ne w2 _ b0;have fF:B.sb<w2.heap.size:=Zpk w2 _ c3;have jr:w.heap.size<w2.heap.size:=Zpk w2 _ b0;have fzA:∀o,(w2.alloc o).frozen? ⟨B.sb,2,none⟩=false:=fun o=>(World.frozen?_of_block (a:=⟨B.sb,2,none⟩) (Below.heap_alloc _ _ _ fF)).trans fz2
 go_region_law ((refine step_append_lies ((w2.alloc (.cells #[.int .i64 n.pl,.int .i64 n.lit,v,.int .u64 (lo n.le),.int .u64 (hi n.le)] 158)).drew) (by rfl) _ _ 159 (by rfl) 0 158 i0 _ 5 56 Tryz.underlying159 cX bB ak bE rfl (by omega) _ s.nodes.length (Zei s.nodes vs) (by rfl) ((bu.own.alloc _).drew) ⟨w2.heap.size,0,none⟩ 1 1 [.int .i64 n.pl,.int .i64 n.lit,v,.int .u64 (lo n.le),.int .u64 (hi n.le)] (by rfl) (by rfl) (World.news_of_block (cs:=#[.int .i64 n.pl,.int .i64 n.lit,v,.int .u64 (lo n.le),.int .u64 (hi n.le)]) (t:=158) (fr:=(0,0)) (Zpm w2 _)) dX.out (by omega) (by unfold maxLen;omega) (by omega) (by simp) (w2.heap.size+1) (by simp) ?_);intro gg uu w3 nV gF rZ xP;have g1:=(gF.cell_far ⟨B.sb,2,none⟩ (by simp;omega) (by simpa [Value.ownBlock] using Ne.symm nU)).trans ((World.cell?_of_block (a:=⟨B.sb,2,none⟩) (Below.heap_alloc _ _ _ fF)).trans c3);have g2:=(gF.frozen_far ⟨B.sb,2,none⟩ (by simp;omega) (by simpa [Value.ownBlock] using Ne.symm nU)).trans (fzA _))
 all_goals
  go_wp2_with fail;have hP:=h2.push aW.out bu ob ((hv.same (fun b c fz hb=>fN.block b (Zpi hb).1))) gF nV rZ hl ⟨a1,a2,a3,a4,a5,a6⟩;clear gF nV rZ xP g1 g2 b0 b1 b2 b3 b4 c2 c3 fzA fz2 eG;generalize w3.setCell ⟨B.sb,2,none⟩ (.slice (some ⟨gg,0,none⟩) (s.nodes.length+1) uu)=w4 at *;obtain⟨hR,hS⟩:=hP;obtain⟨nv4,vs4,cJ,x5,_⟩:=hR.store;obtain⟨gW,rfl⟩:=x5.form;have hd:w4.drew.heap=w4.heap:=rfl;have eP:Rep { B with nb:=gg,eb:=v.ownBlock.toList++B.eb } { s with nodes:=s.nodes++[n] } w4.drew:=hR.same fun k o hk=>rfl
  have f3:w4.drew.cell? ⟨B.sb,3,none⟩=some (.map (some B.ub)):=by simp[World.cell?,hd,cJ]
  have f2:w4.drew.cell? ⟨B.sb,2,none⟩=some (.slice (some ⟨gg,0,none⟩) (s.nodes.length+1) gW):=by simp[World.cell?,hd,cJ]
  have lu:(Instr.mapUpdate 160 (.map (some B.ub)) (.string ⟨(ZgV n.pl n.lit n.el).toArray⟩) (.int .i64 s.nodes.length)).run Tryz.prog w4.drew= .ok () (Zap 9 Tryz.prog w4.drew B.ub (Zdl (n.pl,n.lit,n.el)) (Zab s.nodes.length)) :=
   (eP.uniq.put ZhX (T:=160) Tryz.underlying160 (n.pl,n.lit,n.el) s.nodes.length).1
  have df:=eP.putU (n.pl,n.lit,n.el) s.nodes.length;have cE:Stp (v.ownBlock.toList++[]++[]) B w2 { B with nb:=gg,eb:=v.ownBlock.toList++B.eb } (Zap 9 Tryz.prog w4.drew B.ub (Zdl (n.pl,n.lit,n.el)) (Zab s.nodes.length)):=(hS.trans (Stp.of_below (X:=[]) ((Zpr _ w4).drew))).trans (ZfN _ _ (by simp[Zas.mut]) _ _)
  have f26:(Zap 9 Tryz.prog w4.drew B.ub (Zdl (n.pl,n.lit,n.el)) (Zab s.nodes.length)).cell? ⟨B.sb,2,none⟩=some (.slice (some ⟨gg,0,none⟩) (s.nodes.length+1) gW) :=
   (World.cell?_of_block (a:=⟨B.sb,2,none⟩) (Zai _ _ _ _ _ _ (Ne.symm eP.ub_ne.1))).trans f2
  generalize Zap 9 Tryz.prog w4.drew B.ub (Zdl (n.pl,n.lit,n.el)) (Zab s.nodes.length)=w6 at *;have df:=Zpe df;have cE:=Zpe cE;clear cJ hd;have p7:IntKind.i64.wrap (s.nodes.length:Int)=(s.nodes.length:Int):=IntWalk.i64_in _ (by omega)
  go_region_law (fail)
 all_goals
  clear p7 lu f3 f2;go_wp2_with fail;go_ret;refine⟨?_,_,df.out,((Stp.of_below (X:=[]) fN).trans cE.out).weak (fun x hx=>.inl (by simpa using hx))⟩
  first|rfl|(simp;done)|go_show
theorem Zhz{B:Zas}{s s':St}{w:World}{n:Zaf}{v:Value}{r:Nat}(h:Rep B s w)(hv:ZcM w v n.el)(he:ZnY s n=some (r,s')) :
  Calls Tryz.prog 202 #[.pointer (some ⟨B.sb,0,none⟩),.agg #[.int .i64 n.pl,.int .i64 n.lit,v,.int .u64 (lo n.le),.int .u64 (hi n.le)]] w (ZaB v.ownBlock.toList (.int .i64 r) B s' w):=by
 unfold ZnY at he
 split at he
 ·rename_i hn
  split at he
  ·rename_i i hu
   simp only[Zpw,Prod.mk.injEq]at he;obtain⟨rfl,rfl⟩:=he;exact Zm6 h hv hn hu
  ·rename_i hu
   split at he
   ·rename_i hl
    simp only[Zpw,Prod.mk.injEq]at he;obtain⟨rfl,rfl⟩:=he;exact Zm7 h hv hn hu hl
   ·cases he
 ·cases he
end Go.Proofs.YtmnjakejhbpkoaaGreatDoor
