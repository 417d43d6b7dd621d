import Derived.Test.YtemnmcfmabamcaaGreatDoorYRep
import Derived.Deep.AppendLies
set_option linter.unusedSimpArgs false
set_option linter.unusedVariables false
set_option maxRecDepth 100000
set_option maxHeartbeats 2000000
namespace Go.Proofs.YtemnmcfmabamcaaGreatDoor
open Go Go.RowKit Go.Shelf
def ZaF (X:List Nat)(v:Value)(B:Zar)(s':St)(w:World)(e:Ending)(w':World):Prop:=e= .returned v∧∃B',Rep B' s' w'∧Stp X B w B' w'
theorem ZhR:(Tryz.prog.info? 101).map (fun i=>(i.zero,i.size,i.bytes))=some (some (.agg #[.int .i64 0,.int .i64 0,.slice none 0 0,.int .u64 0,.int .u64 0]),5,56):=by kernel_rfl
theorem ZcQ(w:World):(zeroValue 3).run Tryz.prog w= .ok (.int .i64 0) w:=by kernel_rfl
theorem Zg1:ZcY Tryz.prog 9 ZbT:=ZoY Tryz.underlying9 Zbq ZhT
theorem Zck.form{w:World}{nv:Value}{nb:Nat}{ns:List Zac}{vs:List Value}(h:Zck w nv nb ns vs):∃cap,nv= .slice (some ⟨nb,0,none⟩) ns.length cap:=by
 obtain⟨_,h1|⟨g,cap,cur,hv,hg,hh,r⟩⟩:=h.own
 ·have:=h.blk;rw[h1.1]at this;simp[Value.ownBlock]at this
 ·have:=h.blk
  rw[hv]at this;simp[Value.ownBlock]at this;subst this;exact⟨cap,hv⟩
theorem Zpf{B:Zar}{s:St}{w:World}{n:Zac}{v:Value}{i:Nat}(h:Rep B s w)(hv:Zcp w v n.el)(hn:Zde n)(hu:asc s.uniq (n.pl,n.lit,n.el)=some i) :
  Calls Tryz.prog 100 #[.pointer (some ⟨B.sb,0,none⟩),.agg #[.int .i64 n.pl,.int .i64 n.lit,v,.int .u64 (lo n.le),.int .u64 (hi n.le)]] w (ZaF v.ownBlock.toList (.int .i64 i) B s w):=by
 obtain⟨a1,a2,a3,a4,a5,a6⟩:=hn;have al:Below w.heap.size w (w.alloc (.cells #[.int .i64 n.pl,.int .i64 n.lit,v,.int .u64 (lo n.le),.int .u64 (hi n.le)] 101)):=(ZrE _ w).alloc (ZrQ _) _;have hk:=ZiH n.pl n.lit n.el v (lo n.le) (hi n.le) _ ((h.below al).pow) ((hv.same (fun b c fz hb=>al.block b (Zrv hb).1)).slp) ⟨a5,a6⟩ a1 a2 a3 a4
 go_enter Tryz.func100,Tryz.ntmps100
 go_wp2_with fail;refine hk.mono ?_;rintro e w2 ⟨rfl,aL⟩;have ay:Below w.heap.size w w2:=al.trans (aL.mono (by simp));have h2:=h.below ay;obtain⟨nv,vs,aM,bN,mV⟩:=h2.store;obtain⟨cap,rfl⟩:=bN.form;have c2:w2.cell? ⟨B.sb,3,none⟩=some (.map (some B.ub)):=by simp[World.cell?,aM]
 have bD:=h2.uniq.look Zg1 (T:=64) Tryz.underlying64 _ ZcQ (n.pl,n.lit,n.el);rw[hu]at bD;have fO:(Instr.lookup 64 (.map (some B.ub)) (.string ⟨(Zhs n.pl n.lit n.el).toArray⟩) true).run Tryz.prog w2= .ok (.tuple #[.int .i64 i,.bool true]) w2:=bD;clear bD hk aM hu;go_wp2_with fail;go_ret;exact⟨rfl,B,h2,Stp.of_below ay⟩
theorem Zpg{B:Zar}{s:St}{w:World}{n:Zac}{v:Value}(h:Rep B s w)(hv:Zcp w v n.el)(hn:Zde n)(hu:asc s.uniq (n.pl,n.lit,n.el)=none)(hl:s.nodes.length<1048576) :
  Calls Tryz.prog 100 #[.pointer (some ⟨B.sb,0,none⟩),.agg #[.int .i64 n.pl,.int .i64 n.lit,v,.int .u64 (lo n.le),.int .u64 (hi n.le)]] w (ZaF v.ownBlock.toList (.int .i64 s.nodes.length) B { s with nodes:=s.nodes++[n],uniq:=((n.pl,n.lit,n.el),s.nodes.length) :: s.uniq } w):=by
 obtain⟨i0,bz,bH,aj,av⟩:=info_parts ZhR;obtain⟨a1,a2,a3,a4,a5,a6⟩:=hn;have al:Below w.heap.size w (w.alloc (.cells #[.int .i64 n.pl,.int .i64 n.lit,v,.int .u64 (lo n.le),.int .u64 (hi n.le)] 101)):=(ZrE _ w).alloc (ZrQ _) _;have hk:=ZiH n.pl n.lit n.el v (lo n.le) (hi n.le) _ ((h.below al).pow) ((hv.same (fun b c fz hb=>al.block b (Zrv hb).1)).slp) ⟨a5,a6⟩ a1 a2 a3 a4;have aC:=Zrz w (.cells #[.int .i64 n.pl,.int .i64 n.lit,v,.int .u64 (lo n.le),.int .u64 (hi n.le)] 101)
 go_enter Tryz.func100,Tryz.ntmps100
 go_wp2_with fail;refine hk.mono ?_;rintro e w2 ⟨rfl,aL⟩;have ay:Below w.heap.size w w2:=al.trans (aL.mono (by simp));have ae:=(aL.block w.heap.size (by simp)).trans aC;have h2:=h.below ay;obtain⟨nv,vs,aM,bN,mV⟩:=h2.store;obtain⟨cap,rfl⟩:=bN.form;have c2:w2.cell? ⟨B.sb,3,none⟩=some (.map (some B.ub)):=by simp[World.cell?,aM]
 have c3:w2.cell? ⟨B.sb,2,none⟩=some (.slice (some ⟨B.nb,0,none⟩) s.nodes.length cap):=by simp[World.cell?,aM]
 have bD:=h2.uniq.look Zg1 (T:=64) Tryz.underlying64 _ ZcQ (n.pl,n.lit,n.el);rw[hu]at bD;have fO:(Instr.lookup 64 (.map (some B.ub)) (.string ⟨(Zhs n.pl n.lit n.el).toArray⟩) true).run Tryz.prog w2= .ok (.tuple #[.int .i64 0,.bool false]) w2:=bD;have b0:w2.cell? ⟨w.heap.size,0,none⟩=some (.int .i64 n.pl):=by simp[World.cell?,ae]
 have b1:w2.cell? ⟨w.heap.size,1,none⟩=some (.int .i64 n.lit):=by simp[World.cell?,ae]
 have b2:w2.cell? ⟨w.heap.size,2,none⟩=some v:=by simp[World.cell?,ae]
 have b3:w2.cell? ⟨w.heap.size,3,none⟩=some (.int .u64 (lo n.le)):=by simp[World.cell?,ae]
 have b4:w2.cell? ⟨w.heap.size,4,none⟩=some (.int .u64 (hi n.le)):=by simp[World.cell?,ae]
 have fz2:w2.frozen? ⟨B.sb,2,none⟩=false:=by simp[World.frozen?,aM]
 have aJ:((s.nodes.length:Int) ==1048576)=false:=by simp;omega
 replace aM:=Zrr aM;clear bD hk hu aC ae;go_wp2_with fail
 have aH:∀u∈[.int .i64 n.pl,.int .i64 n.lit,v,.int .u64 (lo n.le),.int .u64 (hi n.le)],Value.oneCell' u=true:=by
  obtain⟨ba,c,rfl,_⟩:=hv;intro u hu;simp at hu;rcases hu with rfl|rfl|rfl|rfl|rfl <;> rfl
 have sj:B.nb≠B.sb:=by
  intro e;obtain⟨c,hc⟩:=bN.nbk;rw[e,aM.out]at hc;simp[ZaD,Zbd]at hc
 have hnbw:B.nb≠w.heap.size:=by
  have:=h.mut_old B.nb (by simp[Zar.mut]);omega
 replace aH:=Zrr aH;have ne1:=World.new_ne w2 _ c3;have ne2:=World.new_ne w2 _ b0;have cK:B.sb<w2.heap.size:=Zrx w2 _ c3;have pY:w.heap.size<w2.heap.size:=Zrx w2 _ b0;have fzA:∀o,(w2.alloc o).frozen? ⟨B.sb,2,none⟩=false:=fun o=>(World.frozen?_of_block (a:=⟨B.sb,2,none⟩) (Below.heap_alloc _ _ _ cK)).trans fz2
 go_region_law ((refine step_append_lies ((w2.alloc (.cells #[.int .i64 n.pl,.int .i64 n.lit,v,.int .u64 (lo n.le),.int .u64 (hi n.le)] 101)).drew) (by rfl) _ _ 63 (by rfl) 0 101 i0 _ 5 56 Tryz.underlying63 bz bH aj av rfl (by omega) _ s.nodes.length (Zcl s.nodes vs) (by rfl) ((bN.own.alloc _).drew) ⟨w2.heap.size,0,none⟩ 1 1 [.int .i64 n.pl,.int .i64 n.lit,v,.int .u64 (lo n.le),.int .u64 (hi n.le)] (by rfl) (by rfl) (World.news_of_block (cs:=#[.int .i64 n.pl,.int .i64 n.lit,v,.int .u64 (lo n.le),.int .u64 (hi n.le)]) (t:=101) (fr:=(0,0)) (Zrz w2 _)) aH.out (by omega) (by unfold maxLen;omega) (by omega) (by simp) (w2.heap.size+1) (by simp) ?_);intro gg cap' w3 tA jm yL rH;have g1:=(jm.cell_far ⟨B.sb,2,none⟩ (by simp;omega) (by simpa [Value.ownBlock] using Ne.symm sj)).trans ((World.cell?_of_block (a:=⟨B.sb,2,none⟩) (Below.heap_alloc _ _ _ cK)).trans c3);have g2:=(jm.frozen_far ⟨B.sb,2,none⟩ (by simp;omega) (by simpa [Value.ownBlock] using Ne.symm sj)).trans (fzA _))
 all_goals
  go_wp2_with fail;have hP:=h2.push aM.out bN mV ((hv.same (fun b c fz hb=>ay.block b (Zrv hb).1))) jm tA yL hl ⟨a1,a2,a3,a4,a5,a6⟩;clear jm tA yL rH g1 g2 b0 b1 b2 b3 b4 c2 c3 fzA fz2 fO;generalize w3.setCell ⟨B.sb,2,none⟩ (.slice (some ⟨gg,0,none⟩) (s.nodes.length+1) cap')=w4 at *;obtain⟨hR,hS⟩:=hP;obtain⟨nv4,vs4,pT,hns4,_⟩:=hR.store;obtain⟨kB,rfl⟩:=hns4.form;have hd:w4.drew.heap=w4.heap:=rfl;have gZ:Rep { B with nb:=gg,eb:=v.ownBlock.toList++B.eb } { s with nodes:=s.nodes++[n] } w4.drew:=hR.same fun k o hk=>rfl
  have f3:w4.drew.cell? ⟨B.sb,3,none⟩=some (.map (some B.ub)):=by simp[World.cell?,hd,pT]
  have f2:w4.drew.cell? ⟨B.sb,2,none⟩=some (.slice (some ⟨gg,0,none⟩) (s.nodes.length+1) kB):=by simp[World.cell?,hd,pT]
  have iQ:(Instr.mapUpdate 64 (.map (some B.ub)) (.string ⟨(Zhs n.pl n.lit n.el).toArray⟩) (.int .i64 s.nodes.length)).run Tryz.prog w4.drew= .ok () (Zas 9 Tryz.prog w4.drew B.ub (ZbT (n.pl,n.lit,n.el)) (Zad s.nodes.length)) :=
   (gZ.uniq.put Zg1 (T:=64) Tryz.underlying64 (n.pl,n.lit,n.el) s.nodes.length).1
  have du:=gZ.putU (n.pl,n.lit,n.el) s.nodes.length;have fd:Stp (v.ownBlock.toList++[]++[]) B w2 { B with nb:=gg,eb:=v.ownBlock.toList++B.eb } (Zas 9 Tryz.prog w4.drew B.ub (ZbT (n.pl,n.lit,n.el)) (Zad s.nodes.length)):=(hS.trans (Stp.of_below (X:=[]) ((ZrE _ w4).drew))).trans (Zgw _ _ (by simp[Zar.mut]) _ _)
  have f26:(Zas 9 Tryz.prog w4.drew B.ub (ZbT (n.pl,n.lit,n.el)) (Zad s.nodes.length)).cell? ⟨B.sb,2,none⟩=some (.slice (some ⟨gg,0,none⟩) (s.nodes.length+1) kB) :=
   (World.cell?_of_block (a:=⟨B.sb,2,none⟩) (Zan _ _ _ _ _ _ (Ne.symm gZ.ub_ne.1))).trans f2
  generalize Zas 9 Tryz.prog w4.drew B.ub (ZbT (n.pl,n.lit,n.el)) (Zad s.nodes.length)=w6 at *;have du:=Zrr du;have fd:=Zrr fd;clear pT hd;have rp:IntKind.i64.wrap (s.nodes.length:Int)=(s.nodes.length:Int):=IntWalk.i64_in _ (by omega)
  go_region_law (fail)
 all_goals
  clear rp iQ f3 f2;go_wp2_with fail;go_ret;refine⟨?_,_,du.out,((Stp.of_below (X:=[]) ay).trans fd.out).weak (fun x hx=>.inl (by simpa using hx))⟩
  first|rfl|(simp;done)|go_show
theorem Zip{B:Zar}{s s':St}{w:World}{n:Zac}{v:Value}{r:Nat}(h:Rep B s w)(hv:Zcp w v n.el)(he:Zqd s n=some (r,s')) :
  Calls Tryz.prog 100 #[.pointer (some ⟨B.sb,0,none⟩),.agg #[.int .i64 n.pl,.int .i64 n.lit,v,.int .u64 (lo n.le),.int .u64 (hi n.le)]] w (ZaF v.ownBlock.toList (.int .i64 r) B s' w):=by
 unfold Zqd at he
 split at he
 ·rename_i hn
  split at he
  ·rename_i i hu
   simp only[ZrJ,Prod.mk.injEq]at he;obtain⟨rfl,rfl⟩:=he;exact Zpf h hv hn hu
  ·rename_i hu
   split at he
   ·rename_i hl
    simp only[ZrJ,Prod.mk.injEq]at he;obtain⟨rfl,rfl⟩:=he;exact Zpg h hv hn hu hl
   ·cases he
 ·cases he
end Go.Proofs.YtemnmcfmabamcaaGreatDoor
