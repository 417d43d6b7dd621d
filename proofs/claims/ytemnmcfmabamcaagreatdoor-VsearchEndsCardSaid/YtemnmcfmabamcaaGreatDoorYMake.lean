import Derived.Test.YtemnmcfmabamcaaGreatDoorYVt
set_option linter.unusedSimpArgs false
set_option linter.unusedVariables false
set_option maxRecDepth 100000
set_option maxHeartbeats 8000000
namespace Go.Proofs.YtemnmcfmabamcaaGreatDoor
open Go Go.RowKit Go.Shelf
def ZbP (n:Nat):Value:=.int .i64 (n:Int)
def Zlj (of:St→Nat→Nat→Option (Nat × St))(B:Zar)(w:World)(vb vo:Nat)(l:List (Nat × Nat))(fin:St × List (Nat × Nat) × List Nat)(k:Nat)(v:Value)(wr:World):Prop :=
 ∃(B':Zar) (sk:St) (m:List (Nat × Nat)) (u:List Nat),Rep B' sk wr∧Stp [] B w B' wr∧ZaI Zad Zad wr w.heap.size (asc m)∧w.heap.size∉B'.mut ∧
   wr.ownsRow w.heap.size 3 1 v u.length (u.map ZbP)∧ZcU wr vb vo 130 (ZaO l)∧u.length≤k∧ZcS of (l.drop k) sk m u=some fin
theorem ZoU{α β:Type}[DecidableEq α](enc:α→Value)(encV:β→Value)(w:World):ZaI enc encV (w.alloc (.map #[] 0)) w.heap.size (fun _=>none) :=
 ⟨[],0,Zrz w _,fun a=>rfl,⟨fun e he=>absurd he (by simp),List.nodup_nil⟩⟩
theorem ZaI.putI{w:World}{pm:Nat}{m:List (Nat × Nat)}(h:ZaI Zad Zad w pm (asc m))(a v:Nat) :
  (Instr.mapUpdate 62 (.map (some pm)) (.int .i64 a) (.int .i64 v)).run Tryz.prog w= .ok () (Zas 3 Tryz.prog w pm (Zad a) (Zad v))∧ZaI Zad Zad (Zas 3 Tryz.prog w pm (Zad a) (Zad v)) pm (asc ((a,v) :: m)):=by
 rw[ZaH];exact h.put Zcw (T:=62) Tryz.underlying62 a v
theorem ZaI.lookI{w:World}{pm:Nat}{m:List (Nat × Nat)}(h:ZaI Zad Zad w pm (asc m))(a:Nat) :
  (Instr.lookup 62 (.map (some pm)) (.int .i64 a) true).run Tryz.prog w= .ok (.tuple #[((asc m a).map Zad).getD (.int .i64 0),.bool (asc m a).isSome]) w :=
 h.look Zcw (T:=62) Tryz.underlying62 _ ZcQ a
theorem ZaI.look1{P:Program}{α β:Type}[DecidableEq α]{K E T:TypeId}{enc:α→Value}{encV:β→Value}{w:World}{b:Nat}{m:α→Option β}(h:ZaI enc encV w b m)(law:ZcY P K enc)
  (hT:P.underlying T=some (.map K E)) (z:Value) (hz:∀w,(zeroValue E).run P w= .ok z w) (a:α) :
  (Instr.lookup T (.map (some b)) (enc a) false).run P w= .ok (((m a).map encV).getD z) w:=by
 obtain⟨L,clock,hb,hm,_⟩:=h;have hf:=hm a;have h2:=law.find a L w
 cases hl:ZaK a L 0 with
 | none =>
   rw[hl]at hf h2;have ig:m a=none:=by simpa using hf.symm
   simp[Instr.lookup,run_underlying hT,Sem.run_bind,getObj,Sem.run,hb,Result.andThen,law.check,h2,hz,ig]
 | some p =>
   rw[hl]at hf h2
   obtain⟨v,hv,hpv⟩:∃v,m a=some v∧encV v=p.2:=by
    cases ig:m a with
    | none=>rw[ig]at hf;simp at hf
    | some v=>rw[ig]at hf;exact⟨v,rfl,by simpa using hf.symm⟩
   simp[Instr.lookup,run_underlying hT,Sem.run_bind,getObj,Sem.run,hb,Result.andThen,law.check,h2,hv,hpv]
theorem ZaI.lookD{w:World}{pm:Nat}{m:List (Nat × Nat)}(h:ZaI Zad Zad w pm (asc m))(a:Nat) :
  (Instr.lookup 62 (.map (some pm)) (.int .i64 a) false).run Tryz.prog w= .ok (.int .i64 (ZdA m a:Nat)) w:=by
 have h1:=h.look1 Zcw (T:=62) Tryz.underlying62 _ ZcQ a
 have h2:((asc m a).map Zad).getD (.int .i64 0)= .int .i64 (ZdA m a:Nat):=by
  unfold ZdA
  cases asc m a <;> rfl
 rw[h2]at h1;exact h1
theorem ZmB{B:Zar}{s:St}{w:World}{pm:Nat}{m:List (Nat × Nat)}(h:Rep B s w)(hm:ZaI Zad Zad w pm (asc m))(aJ:pm∉B.mut)(hg:pm≠Zdm∧pm≠gTz)(k v:Value) :
  Rep B s (Zas 3 Tryz.prog w pm k v)∧Stp [pm] B w B (Zas 3 Tryz.prog w pm k v):=by
 obtain⟨L,cl,hb,_⟩:=hm;refine⟨h.offMap hb aJ hg (fun j hj=>Zan _ _ _ _ _ j hj),Stp.of_but ?_ (by rw[Zaw];exact ZrQ _) (fun j _ hj=>Zan _ _ _ _ _ j (by simpa using hj))⟩;obtain⟨a1,a2,a3,_⟩:=Za6 (P:=Tryz.prog) 3 w pm k v;exact⟨a1,a2,a3⟩
theorem Zky{B:Zar}{s:St}{w w':World}{base n:Nat}{v:Value}{xs:List Value}(h:Rep B s w)(hO:w.ownsRow base 3 1 v n xs)(hb:Zdm<base∧gTz<base)(hg:w.grownBy w' v.ownBlock) :
  Rep B s w'∧Stp v.ownBlock.toList B w B w'∧∀(k:Nat) (o:Obj),w.heap[k]? =some o→(∀(c:Array Value) (f:Nat × Nat),o≠Obj.cells c 3 f)→w'.heap[k]? =some o:=by
 have fq:∀(k:Nat) (o:Obj),w.heap[k]? =some o→(∀(c:Array Value) (f:Nat × Nat),o≠Obj.cells c 3 f)→w'.heap[k]? =some o:=by
  intro k o hk ho;refine(hg.block k (Zrv hk).1 ?_).trans hk;obtain⟨_,⟨rfl,_⟩|⟨g,cap,cur,rfl,_,hh,_⟩⟩:=hO
  ·simp[Value.ownBlock]
  ·simp only[Value.ownBlock]
   intro e
   cases e
   rw[hh]at hk
   cases hk
   exact ho _ _ rfl
 have ev:∀k,k<base→k<w.heap.size→w'.heap[k]? =w.heap[k]?:=by
  intro k hk hl;refine hg.block k hl ?_;intro e;have:=Zay hO e.symm;omega
 refine⟨?_,Stp.of_but ⟨hg.os,hg.tape,hg.output⟩ hg.size (fun k hk hX=>hg.block k hk (fun e=>hX (by rw[←e];simp))),fq⟩;obtain⟨a1,a2,a3,⟨nv,vs,aM,bN,he⟩,⟨tcs,tfz,a5,a5'⟩,⟨L6,c6,a6,b6⟩,⟨L7,c7,a7,b7⟩,⟨L8,c8,a8,b8⟩,⟨L9,c9,a9,b9⟩,a10,a11⟩:=h;obtain⟨cn,hcn⟩:=bN.nbk
 refine⟨a1.same (ev _ hb.2 a1.lt'),a2.same (ev _ hb.1 a2.lt),a3,⟨nv,vs,fq _ _ aM (by simp[ZaD]),⟨bN.len,Zaa bN.own ?_,bN.blk,fun i hi hv=>(bN.els i hi hv).same fun b c fz aL=>(fq _ _ aL (by simp[ZaN])).trans aL.symm⟩,he⟩,
  ⟨tcs,tfz,fq _ _ a5 (by simp),a5'⟩,⟨L6,c6,fq _ _ a6 (by simp),b6⟩,⟨L7,c7,fq _ _ a7 (by simp),b7⟩,⟨L8,c8,fq _ _ a8 (by simp),b8⟩,⟨L9,c9,fq _ _ a9 (by simp),b9⟩,a10,a11⟩
 intro k hk;rw[bN.blk]at hk
 cases hk
 exact(fq _ _ hcn (by simp[Zbd])).trans hcn.symm
def ZcX (w:World)(b:Nat)(f:Nat→Nat × Nat)(U:List Nat)(k:Nat)(w':World):Prop :=
 ∃cs:Array Value,w'.heap[b]? =some (.cells cs ZaN (0,0))∧cs.size=U.length*2∧(∀(j:Nat) (u:Value),(ZaO ((U.take k).map f))[j]? =some u→cs[j]? =some u)∧Ext w w'
theorem ZcX.free{w w':World}{b:Nat}{f:Nat→Nat × Nat}{U:List Nat}{k:Nat}(h:ZcX w b f U k w')(hk:k<U.length) :
  (∃u,w'.cell? ⟨b,k*2,none⟩=some u∧w'.frozen? ⟨b,k*2,none⟩=false)∧(∃u,w'.cell? ⟨b,k*2+1,none⟩=some u∧w'.frozen? ⟨b,k*2+1,none⟩=false)∧Ext w w':=by
 obtain⟨cs,h1,h2,h3,h4⟩:=h;refine⟨⟨cs[k*2]'(by omega),?_,?_⟩,⟨cs[k*2+1]'(by omega),?_,?_⟩,h4⟩
 ·simp[World.cell?,h1]
 ·simp[World.frozen?,h1]
 ·simp[World.cell?,h1]
 ·simp[World.frozen?,h1]
theorem ZcX.next{w w1:World}{b:Nat}{f:Nat→Nat × Nat}{U:List Nat}{k:Nat}(h:ZcX w b f U k w1)(hb:w.heap.size≤b)(hk:k<U.length)(w':World)
  (e:w'=(w1.setCell ⟨b,k*2,none⟩ (.int .i64 ((f U[k]).1:Nat))).setCell ⟨b,k*2+1,none⟩ (.int .i64 ((f U[k]).2:Nat))):ZcX w b f U (k+1) w':=by
 obtain⟨cs,h1,h2,h3,h4⟩:=h;subst e;refine⟨_,Zaj (Zaj h1 _ _) _ _,by simpa using h2,fun j u hj=>?_,(h4.setCell hb _).setCell hb _⟩;rw[List.take_succ_eq_append_getElem hk,List.map_append]at hj;simp only[ZaO,List.flatMap_append,List.map_cons,List.map_nil,List.flatMap_cons,List.flatMap_nil,List.append_nil]at hj
 have hl:(((U.take k).map f).flatMap fun p=>[Value.int .i64 (p.1:Int),Value.int .i64 (p.2:Int)]).length=2*k:=by
  have:=Zcs ((U.take k).map f);simpa [ZaO,Nat.min_eq_left (Nat.le_of_lt hk)] using this
 rw[Array.getElem?_setIfInBounds,Array.getElem?_setIfInBounds]
 by_cases py:j<2*k
 ·rw[List.getElem?_append_left (by omega)]at hj
  rw[if_neg (by omega),if_neg (by omega)];exact h3 j u hj
 ·rw[List.getElem?_append_right (by omega),hl]at hj
  obtain⟨i,rfl⟩:∃i,j=2*k+i:=⟨j - 2*k,by omega⟩;rw[show 2*k+i - 2*k=i from by omega]at hj
  match i,hj with
  | 0,hj =>
    rw[if_neg (by omega),if_pos (by omega)];simp at hj;rw[if_pos (by omega),←hj]
  | 1,hj =>
    rw[if_pos (by omega)];simp at hj;rw[if_pos (by simp;omega),←hj]
  | i+2,hj=>simp at hj
theorem ZiP{of:St→Nat→Nat→Option (Nat × St)}{p:Nat × Nat}{r:List (Nat × Nat)}{s:St}{m:List (Nat × Nat)}{u:List Nat}{fin:St × List (Nat × Nat) × List Nat}(h:ZcS of (p :: r) s m u=some fin) :
  (∃q z s1,asc m p.2=some q∧of s q p.1=some (z,s1)∧ZcS of r s1 ((p.2,z) :: m) u=some fin)∨(asc m p.2=none∧ZcS of r s ((p.2,p.1) :: m) (u++[p.2])=some fin):=by
 unfold ZcS at h
 split at h
 ·rename_i q hq
  split at h
  ·cases h
  ·rename_i z s1 hz
   exact .inl ⟨q,z,s1,hq,hz,h⟩
 ·rename_i hq
  exact .inr ⟨hq,h⟩
theorem Zoa{of:St→Nat→Nat→Option (Nat × St)}(ih:Znw of){B:Zar}{s s':St}{w:World}{l:List (Nat × Nat)}{v:Value}{pl r:Nat}(h:Rep B s w)(hv:Zcp w v l)(he:ZkJ of s pl l=some (r,s')) :
  Calls Tryz.prog 106 #[.pointer (some ⟨B.sb,0,none⟩),.int .i64 pl,v] w (ZaF [] (.int .i64 r) B s' w):=by
 obtain⟨ba,cp,rfl,gA⟩:=hv;unfold ZkJ at he
 split at he
 ·cases he
 rename_i s1 m1 u1 iO
 split at iO
 rotate_left
 ·cases iO
 rename_i aX
 have ez:l≠[]:=by
  rintro rfl;simp only[ZcS,ZrJ,Prod.mk.injEq]at iO;obtain⟨_,_,rfl⟩:=iO;simp[ZbB]at he
 obtain⟨vb,vo,rfl,aT⟩:∃vb vo,ba=some ⟨vb,vo,none⟩∧ZcU w vb vo 130 (ZaO l):=by
  rcases gA with ⟨_,e,_⟩|⟨vb,vo,e,hr⟩
  ·exact absurd e ez
  ·exact⟨vb,vo,e,hr⟩
 clear gA;obtain⟨i0,bz,bH,aj,av⟩:=info_parts Ze5;have aW:Ext w (w.alloc (.map #[] 0)):=(Ext.refl w).alloc _;have lI:w.heap.size<(w.alloc (.map #[] 0)).heap.size:=by simp
 have bI:Zdm<w.heap.size∧gTz<w.heap.size:=⟨h.pow.lt,h.tz.lt'⟩;have hg:w.heap.size≠Zdm∧w.heap.size≠gTz:=by omega
 replace bI:=Zrr bI
 have aY:Hid (Zlj of B w vb vo l (s1,m1,u1) 0 (.slice none 0 0) (w.alloc (.map #[] 0))):=Zrr
  ⟨B,s,[],[],h.below aW.below,Stp.of_below aW.below,ZoU _ _ w,(fun hc=>Nat.lt_irrefl _ (h.mut_old _ hc)),World.ownsRow_nil _ _ _ _,aT.same (aW.below.block _ aT.lt),ZrQ _,iO⟩
 replace he:=Zrr he;replace ez:=Zrr ez;clear iO aT h aW;have jy:∀w,(Instr.makeMap 62 none).run Tryz.prog w= .ok (.map (some w.heap.size)) (w.alloc (.map #[] 0)):=fun w=>rfl
 go_enter Tryz.func106,Tryz.ntmps106
 go_wp2_with fail;generalize w.alloc (.map #[] 0)=w1 at *
 go_loopw [8,19] (fun v i wr=>∃k:Nat,k≤l.length∧i= .int .i64 k∧Hid (Zlj of B w vb vo l (s1,m1,u1) k v wr))
  (fun _ i _=>l.length - (intOf i).toNat)
 case atStart=>exact⟨0,Nat.zero_le _,rfl,aY⟩
 case round =>
  clear aY;obtain⟨k,hk,rfl,hI⟩:=hrel;obtain⟨B',sk,m,u,iW,jH,hM,de,hO,aT,hul,fV⟩:=hI.out;clear hI;have cK:B'.sb=B.sb:=jH.sb
  by_cases aD:k<l.length
  ·obtain⟨e0,e1⟩:=aT.off0 k aD
   rw[List.drop_eq_getElem_cons aD]at fV;generalize l[k]=p at *;obtain⟨p1,p2⟩:=p;simp only at e0 e1;have nQ:=Zrz wr (.cells #[.int .i64 p1,.int .i64 p2] 130);have aK:Ext wr (wr.alloc (.cells #[.int .i64 p1,.int .i64 p2] 130)):=(Ext.refl wr).alloc _;have jG:=hM.same (aK.below.block _ hM.lt);have bD:=jG.lookI p2;have ac:=jH.fr.size;have hms':=ZiP fV;clear fV;rcases hms' with ⟨q,z,s2,hq,wW,fV⟩|⟨hq,fV⟩
   ·rw[hq]at bD
    have fO:(Instr.lookup 62 (.map (some w.heap.size)) (.int .i64 p2) true).run Tryz.prog (wr.alloc (.cells #[.int .i64 p1,.int .i64 p2] 130))= .ok (.tuple #[.int .i64 q,.bool true]) (wr.alloc (.cells #[.int .i64 p1,.int .i64 p2] 130)):=bD;have hpmw:=hM.lt;have aQ:=iW.below aK.below;have cC:Stp [] B w B' (wr.alloc (.cells #[.int .i64 p1,.int .i64 p2] 130)):=jH.then (Stp.of_below aK.below)
    have mu:=Zaa (w':=wr.alloc (.cells #[.int .i64 p1,.int .i64 p2] 130)) hO (fun g hg=>aK.below.block g (by
     obtain⟨_,⟨e,_⟩|⟨g',cap,cur,e,_,hh,_⟩⟩:=hO
     ·rw[e]at hg;simp[Value.ownBlock]at hg
     ·rw[e]at hg;simp[Value.ownBlock]at hg;subst hg;exact(Zrv hh).1))
    have gw:=aT.same (aK.below.block _ aT.lt);clear bD hO aT iW hM;obtain⟨b0,b1⟩:=Zah nQ;replace nQ:=Zrr nQ;replace mu:=Zrr mu;replace jG:=Zrr jG;replace aQ:=Zrr aQ;replace gw:=Zrr gw;replace fV:=Zrr fV;replace hq:=Zrr hq;replace wW:=Zrr wW;go_wp2_with fail;generalize wr.alloc (.cells #[.int .i64 p1,.int .i64 p2] 130)=w2 at *;have dU:=ih B' sk s2 w2.drew q p1 z (aQ.out.below ((ZrE _ w2).drew)) wW.out;rw[cK]at dU;have hd:w2.drew.heap=w2.heap:=rfl;have dbn:w2.drew.heap[wr.heap.size]? =some (.cells #[.int .i64 p1,.int .i64 p2] ZaN (0,0)):=nQ.out;have hnm:wr.heap.size∉B'.mut:=aQ.out.not_mut nQ.out (by decide) (by decide);replace dbn:=Zrr dbn;clear hd
    go_region_with (go_at_call 76;refine dU.mono ?_;rintro e w5 ⟨rfl,B5,gZ,bO⟩;have ah:=bO.keep dbn.out hnm (by simp);obtain⟨c0,c1⟩:=Zah ah;have n9:=jG.out.same (w':=w5) (bO.fr.block _ jG.out.lt (by simpa using de));obtain⟨iQ,x7⟩:=n9.putI p2 z;have x7:=Zrr x7;have n9:=Zrr n9;have gZ:=Zrr gZ;have bO:=Zrr bO;clear ah)
    all_goals
     have zY:w.heap.size∉B5.mut:=fun hc=>by
      rcases bO.out.new _ hc with h1|h1
      ·exact de h1
      ·have:=jG.out.lt
       have e:w2.drew.heap.size=w2.heap.size:=rfl;omega
     obtain⟨du,fd⟩:=ZmB gZ.out n9.out zY hg (Zad p2) (Zad z)
     have hK:∀(j:Nat) (c:Array Value) (t:TypeId) (f:Nat × Nat),w2.heap[j]? =some (Obj.cells c t f)→t≠Zbd→t≠ZaD→(Zas 3 Tryz.prog w5 w.heap.size (Zad p2) (Zad z)).heap[j]? =w2.heap[j]?:=fun j c t f hj h1 h2=>by
      have aJ:j≠w.heap.size:=fun e=>by
       obtain⟨L,cl,aL,_⟩:=jG.out;rw[e,aL]at hj;simp at hj
      rw[Zan _ _ _ _ _ j aJ,hj];exact bO.out.keep (w:=w2.drew) hj (aQ.out.not_mut hj h1 h2) (by simp)
     have vx:=Zaa (w':=Zas 3 Tryz.prog w5 w.heap.size (Zad p2) (Zad z)) mu.out (fun g oc=>by
      obtain⟨_,⟨e2,_⟩|⟨g',cap,cur,e2,_,hh,_⟩⟩:=mu.out
      ·rw[e2]at oc;simp[Value.ownBlock]at oc
      ·rw[e2]at oc;simp[Value.ownBlock]at oc;subst oc
       exact hK _ _ _ _ hh (by decide) (by decide))
     have tG:ZcU (Zas 3 Tryz.prog w5 w.heap.size (Zad p2) (Zad z)) vb vo 130 (ZaO l):=by
      obtain⟨c,fz,hb,hh⟩:=gw.out;exact⟨c,fz,(hK _ _ _ _ hb (by decide) (by decide)).trans hb,hh⟩
     have aA:Hid (Zlj of B w vb vo l (s1,m1,u1) (k+1) u8 (Zas 3 Tryz.prog w5 w.heap.size (Zad p2) (Zad z))):=Zrr
      ⟨B5,s2,(p2,z) :: m,u,du,((cC.then ((Stp.of_below (X:=[]) ((ZrE _ w2).drew)).then bO.out)).trans fd).weak (fun x hx=>by simp at hx;subst hx;exact .inr (ZrQ _)),x7.out,zY,vx,tG,by omega,fV.out⟩
     clear vx tG hK du fd iQ;generalize Zas 3 Tryz.prog w5 w.heap.size (Zad p2) (Zad z)=w6 at *;go_wp2_with fail;go_roundw
     case rel=>exact⟨k+1,by omega,by go_num,aA⟩
     case measure=>simp[intOf];omega
   ·rw[hq]at bD
    have fO:(Instr.lookup 62 (.map (some w.heap.size)) (.int .i64 p2) true).run Tryz.prog (wr.alloc (.cells #[.int .i64 p1,.int .i64 p2] 130))= .ok (.tuple #[.int .i64 0,.bool false]) (wr.alloc (.cells #[.int .i64 p1,.int .i64 p2] 130)):=bD;have hpmw:=hM.lt
    have mu:=Zaa (w':=wr.alloc (.cells #[.int .i64 p1,.int .i64 p2] 130)) hO (fun g hg=>aK.below.block g (by
     obtain⟨_,⟨e,_⟩|⟨g',cap,cur,e,_,hh,_⟩⟩:=hO
     ·rw[e]at hg;simp[Value.ownBlock]at hg
     ·rw[e]at hg;simp[Value.ownBlock]at hg;subst hg;exact(Zrv hh).1))
    have aQ:=iW.below aK.below;have gw:=aT.same (aK.below.block _ aT.lt);clear bD hO aT iW hM;obtain⟨b0,b1⟩:=Zah nQ;obtain⟨iQ,xY⟩:=jG.putI p2 p1;obtain⟨bA,bB⟩:=ZmB aQ jG de hg (Zad p2) (Zad p1);have bK:∀j,j≠w.heap.size→(Zas 3 Tryz.prog (wr.alloc (.cells #[.int .i64 p1,.int .i64 p2] 130)) w.heap.size (Zad p2) (Zad p1)).heap[j]? =(wr.alloc (.cells #[.int .i64 p1,.int .i64 p2] 130)).heap[j]?:=fun j hj=>Zan _ _ _ _ _ j hj
    have cC:Stp [] B w B' (wr.alloc (.cells #[.int .i64 p1,.int .i64 p2] 130)):=jH.then (Stp.of_below aK.below)
    generalize lT:Zas 3 Tryz.prog (wr.alloc (.cells #[.int .i64 p1,.int .i64 p2] 130)) w.heap.size (Zad p2) (Zad p1)=w2 at *;have aS:=(bK wr.heap.size (by omega)).trans nQ
    have fG:=gw.same (bK vb (by
     intro e;obtain⟨c,fz,hb,_⟩:=gw;obtain⟨L,cl,aL,_⟩:=jG;rw[e,aL]at hb;simp at hb))
    have qQ:=Zaa (w':=w2) mu (fun g oc=>bK g (by
     intro e;obtain⟨_,⟨e2,_⟩|⟨g',cap,cur,e2,_,hh,_⟩⟩:=mu
     ·rw[e2]at oc;simp[Value.ownBlock]at oc
     ·rw[e2]at oc;simp[Value.ownBlock]at oc;subst oc
      obtain⟨L,cl,aL,_⟩:=jG;rw[e,aL]at hh;simp at hh))
    have iq:w2.heap.size=wr.heap.size+1:=by rw[←lT,Zaw];simp
    obtain⟨d0,d1⟩:=Zah aS;replace nQ:=Zrr nQ;replace aS:=Zrr aS;replace mu:=Zrr mu;replace jG:=Zrr jG;replace xY:=Zrr xY;replace aQ:=Zrr aQ;replace bA:=Zrr bA;replace gw:=Zrr gw;replace fV:=Zrr fV;replace lT:=Zrr lT;replace hq:=Zrr hq;clear bK
    go_wp2_with (at_builtin;refine wpList_append_own _ rfl _ _ 76 rfl w.heap.size 3 i0 (.int .i64 0) 1 8 Tryz.underlying76 bz bH aj av rfl (by decide) _ _ _ rfl (qQ.alloc _) ⟨wr.heap.size+1,0,none⟩ 1 1 [.int .i64 p2] rfl rfl (Zao _ _ _ _ iq.symm) (by simp[Value.oneCell']) (by unfold maxLen;omega) (by omega) (by simp;omega) ?_;intro v3 w3 au bP _)
    have oC:Ext w2 (w2.alloc (.cells #[.int .i64 p2] 3)):=(Ext.refl w2).alloc _;obtain⟨cX,fL,hK3⟩:=Zky (bA.out.below oC.below) (qQ.alloc _) bI.out bP;go_roundw
    case rel =>
     refine⟨k+1,by omega,by go_num,Zrr ⟨B',sk,(p2,p1) :: m,u++[p2],cX,?_,?_,de,?_,?_,by simp;omega,fV.out⟩⟩
     ·refine(((cC.trans bB).trans (Stp.of_below (X:=[]) oC.below)).trans fL).weak (fun x hx=>?_)
      simp only[List.nil_append,List.append_nil,List.mem_append,List.mem_singleton]at hx;rcases hx with rfl|hx
      ·exact .inr (ZrQ _)
      ·refine .inr (Zay qQ (k:=x) (by simpa using hx))
     ·obtain⟨L,cl,hb,hh⟩:=xY.out
      exact⟨L,cl,hK3 _ _ ((oC.below.block _ (Zrv hb).1).trans hb) (by simp),hh⟩
     ·exact Zak au (by simp) (by simp[ZbP])
     ·obtain⟨c,fz,hb,hh⟩:=fG
      exact⟨c,fz,hK3 _ _ ((oC.below.block _ (Zrv hb).1).trans hb) (by simp),hh⟩
    case measure=>simp[intOf];omega
  ·obtain rfl:k=l.length:=by omega
   simp only[List.drop_length,ZcS,ZrJ,Prod.mk.injEq]at fV;obtain⟨rfl,rfl,rfl⟩:=fV
   obtain⟨x,rest,hu⟩:∃x rest,u=x :: rest:=by
    cases u with
    | nil=>have:=he.out;simp[ZbB]at this
    | cons x rest=>exact⟨x,rest,rfl⟩
   subst hu;obtain⟨_,⟨_,e⟩|⟨g,cap,cur,rfl,sX,jC,hn,hm,cA,ht⟩⟩:=hO
   ·simp at e
   have aN:∀j (hj:j<(x :: rest).length),wr.cell? ⟨g,j,none⟩=some (.int .i64 ((x :: rest)[j]:Nat)):=fun j hj=>by
    have h1:((x :: rest).map ZbP)[j]? =some (ZbP (x :: rest)[j]):=by rw[List.getElem?_map,Zry hj];rfl
    rw[←ht,List.getElem?_take]at h1
    split at h1
    ·have h2:cur[j]? =some (ZbP (x :: rest)[j]):=by simpa using h1
     simp[World.cell?,jC,h2,ZbP]
    ·simp at h1
   have kf:=fun a=>hM.lookD a
   clear ht cA hm hn
   cases rest with
   | nil =>
     have oZ:=he.out;simp only[ZrJ,Prod.mk.injEq]at oZ;obtain⟨rfl,rfl⟩:=oZ;have c0:=aN 0 (by simp);simp only[List.getElem_cons_zero]at c0;clear aN kf;replace hM:=Zrr hM;replace aT:=Zrr aT;replace iW:=Zrr iW;simp only[ZrP,List.length_nil,Nat.zero_add];go_wp2_with fail;go_ret;exact⟨rfl,B',iW.out,jH⟩
   | cons y rest =>
     have c0:=aN 0 (by simp);have c1:=aN 1 (by simp);simp only[List.getElem_cons_zero,List.getElem_cons_succ]at c0 c1
     by_cases hr:rest=[]∧x<2∧y<2
     ·obtain⟨rfl,aO,hy2⟩:=hr
      have oZ:=he.out;simp only[aO,hy2,and_self,if_true,ZrJ,Prod.mk.injEq]at oZ;obtain⟨rfl,rfl⟩:=oZ;have fN:(Instr.lookup 62 (.map (some w.heap.size)) (.int .i64 1) false).run Tryz.prog wr= .ok (.int .i64 (ZdA m 1:Nat)) wr:=kf 1;have hd1:decide ((x:Int)<2)=true:=ZrI (by omega);have hd2:decide ((y:Int)<2)=true:=ZrI (by omega);clear aN kf;replace hM:=Zrr hM;replace aT:=Zrr aT;replace iW:=Zrr iW;simp only[ZrP,List.length_nil,Nat.zero_add];go_wp2_with fail;go_ret;exact⟨rfl,B',iW.out,jH⟩
     ·obtain⟨U,hU⟩:∃U,x :: y :: rest=U:=⟨_,rfl⟩
      have ji:Hid (ZbB sk pl (U.map fun x=>(ZdA m x,x))=some (r,s')):=Zrr (by
       have oZ:=he.out;rw[←hU]
       cases rest with
       | nil =>
         have gW:¬ (x<2∧y<2):=fun e=>hr ⟨rfl,e⟩
         simpa [gW] using oZ
       | cons z rest=>exact oZ)
      have hU2:2≤U.length:=by rw[←hU];simp
      obtain⟨ip,hip,hpz,uu,fW⟩:=info_parts Zfx;have yB:U.length≤1048576:=by rw[hU]at hul;omega
      have hmk2:∀w:World,(Instr.makeSlice 99 (.int .i64 U.length) (.int .i64 U.length)).run Tryz.prog w= .ok (.slice (some ⟨w.heap.size,0,none⟩) U.length U.length) (w.alloc (.cells (madeCells #[.int .i64 0,.int .i64 0] (U.length*2)) 130)):=fun w=>by
       have h1:=run_make (P:=Tryz.prog) w 99 130 ip _ Tryz.underlying99 hip hpz .i64 .i64 U.length U.length (by omega) (Int.le_refl _) (by rw[fW];omega) (by omega);simp only[Int.toNat_natCast,uu]at h1;exact h1
      have yT:∀j (hj:j<U.length),wr.cell? ⟨g,j,none⟩=some (.int .i64 (U[j]:Nat)):=by rw[←hU];exact aN
      have h21:((U.length:Int) ==1)=false:=by simp;omega
      have hXY:(((U.length:Int) ==2)=false)∨(((U.length:Int) ==2)=true∧decide ((x:Int)<2)=false)∨(((U.length:Int) ==2)=true∧decide ((x:Int)<2)=true∧decide ((y:Int)<2)=false):=by
       cases rest with
       | nil =>
         have iE:U.length=2:=by rw[←hU];rfl
         rw[iE]
         by_cases aO:x<2
         ·have hy2:¬ y<2:=fun e=>hr ⟨rfl,aO,e⟩
          exact .inr (.inr ⟨rfl,ZrI (by omega),ZrH (by omega)⟩)
         ·exact .inr (.inl ⟨rfl,ZrH (by omega)⟩)
       | cons z rest =>
         have iE:U.length=rest.length+3:=by rw[←hU];simp
         exact .inl (by rw[iE];simp;omega)
      have vk:(0:Int)<U.length:=by omega
      have oJ:(1:Int)<U.length:=by omega
      rw[hU];clear aN;replace yT:=Zrr yT;replace kf:=Zrr kf;replace hM:=Zrr hM;replace aT:=Zrr aT;replace iW:=Zrr iW;replace jC:=Zrr jC;replace hU:=Zrr hU;have io:=Zrr jH.fr.size;rcases hXY with q1|⟨q1,q2⟩|⟨q1,q2,q3⟩
      ·skip
       go_wp2_with fail;have eV:Hid (ZcX wr wr.heap.size (fun x=>(ZdA m x,x)) U 0 (wr.alloc (.cells (madeCells #[.int .i64 0,.int .i64 0] (U.length*2)) 130))):=Zrr ⟨_,Zrz wr _,by simp[madeCells],fun j u hj=>by simp[ZaO]at hj,(Ext.refl wr).alloc _⟩;generalize wr.alloc (.cells (madeCells #[.int .i64 0,.int .i64 0] (U.length*2)) 130)=wm at *
       go_loopw [78] (fun i wi=>∃k:Nat,k≤U.length∧i= .int .i64 k∧Hid (ZcX wr wr.heap.size (fun x=>(ZdA m x,x)) U k wi))
        (fun i _=>U.length - (intOf i).toNat)
       case atStart=>exact⟨0,Nat.zero_le _,rfl,eV⟩
       case round =>
        clear eV;obtain⟨k,hk,rfl,hI⟩:=hrel
        by_cases aD:k<U.length
        ·obtain⟨⟨u0,f0,z0⟩,⟨u1,f1,z1⟩,hX⟩:=hI.out.free aD
         have hc:=hX.cell (yT.out k aD);have bD:=(hM.out.same (hX.below.block _ hM.out.lt)).lookD U[k];have aA:=fun w' h=>hI.out.next (ZrQ _) aD w' h
         generalize j7:U[k]=xk at *;replace j7:=Zrr j7;replace aA:=Zrr aA;go_wp2_with fail;go_roundw
         case rel=>exact⟨k+1,by omega,by go_num,Zrr (aA.out _ rfl)⟩
         case measure=>simp[intOf];omega
        ·obtain rfl:k=U.length:=by omega
         obtain⟨cs,od,cA,iC,hX⟩:=hI.out;have gc:=iW.out.tight.below hX.below;have kV:=Zdl (cap:=U.length) (off:=0) (l:=U.map fun x=>(ZdA m x,x)) gc od (fun j u hj=>by rw[Nat.zero_add];exact iC j u (by rw[List.take_length];exact hj)) (fun hc=>by have:=(List.mem_filter.1 hc).2;simp at this) (by have:=bI.out;have:=io.out;omega) (by simpa using yB) ji.out;have kV:=kV.mono (ZaF.loose (B:=B') (fun k hk=>(List.mem_filter.1 hk).1))
         try dsimp only at kV
         rw[cK,List.length_map]at kV;replace iC:=Zrr iC;replace od:=Zrr od;replace cA:=Zrr cA;clear gc hI;go_wp2_with fail;refine kV.mono ?_;rintro e w9 ⟨rfl,B9,fZ,iA⟩;replace fZ:=Zrr fZ;go_wp2_with fail;go_ret;exact⟨rfl,B9,fZ.out,((jH.then (Stp.of_below (X:=[]) hX.below)).trans iA).weak (fun x hx=>.inr (by have:=io.out;simp at hx;omega))⟩
      ·skip
       go_wp2_with fail;have eV:Hid (ZcX wr wr.heap.size (fun x=>(ZdA m x,x)) U 0 (wr.alloc (.cells (madeCells #[.int .i64 0,.int .i64 0] (U.length*2)) 130))):=Zrr ⟨_,Zrz wr _,by simp[madeCells],fun j u hj=>by simp[ZaO]at hj,(Ext.refl wr).alloc _⟩;generalize wr.alloc (.cells (madeCells #[.int .i64 0,.int .i64 0] (U.length*2)) 130)=wm at *
       go_loopw [78] (fun i wi=>∃k:Nat,k≤U.length∧i= .int .i64 k∧Hid (ZcX wr wr.heap.size (fun x=>(ZdA m x,x)) U k wi))
        (fun i _=>U.length - (intOf i).toNat)
       case atStart=>exact⟨0,Nat.zero_le _,rfl,eV⟩
       case round =>
        clear eV;obtain⟨k,hk,rfl,hI⟩:=hrel
        by_cases aD:k<U.length
        ·obtain⟨⟨u0,f0,z0⟩,⟨u1,f1,z1⟩,hX⟩:=hI.out.free aD
         have hc:=hX.cell (yT.out k aD);have bD:=(hM.out.same (hX.below.block _ hM.out.lt)).lookD U[k];have aA:=fun w' h=>hI.out.next (ZrQ _) aD w' h
         generalize j7:U[k]=xk at *;replace j7:=Zrr j7;replace aA:=Zrr aA;go_wp2_with fail;go_roundw
         case rel=>exact⟨k+1,by omega,by go_num,Zrr (aA.out _ rfl)⟩
         case measure=>simp[intOf];omega
        ·obtain rfl:k=U.length:=by omega
         obtain⟨cs,od,cA,iC,hX⟩:=hI.out;have gc:=iW.out.tight.below hX.below;have kV:=Zdl (cap:=U.length) (off:=0) (l:=U.map fun x=>(ZdA m x,x)) gc od (fun j u hj=>by rw[Nat.zero_add];exact iC j u (by rw[List.take_length];exact hj)) (fun hc=>by have:=(List.mem_filter.1 hc).2;simp at this) (by have:=bI.out;have:=io.out;omega) (by simpa using yB) ji.out;have kV:=kV.mono (ZaF.loose (B:=B') (fun k hk=>(List.mem_filter.1 hk).1))
         try dsimp only at kV
         rw[cK,List.length_map]at kV;replace iC:=Zrr iC;replace od:=Zrr od;replace cA:=Zrr cA;clear gc hI;go_wp2_with fail;refine kV.mono ?_;rintro e w9 ⟨rfl,B9,fZ,iA⟩;replace fZ:=Zrr fZ;go_wp2_with fail;go_ret;exact⟨rfl,B9,fZ.out,((jH.then (Stp.of_below (X:=[]) hX.below)).trans iA).weak (fun x hx=>.inr (by have:=io.out;simp at hx;omega))⟩
      ·skip
       go_wp2_with fail;have eV:Hid (ZcX wr wr.heap.size (fun x=>(ZdA m x,x)) U 0 (wr.alloc (.cells (madeCells #[.int .i64 0,.int .i64 0] (U.length*2)) 130))):=Zrr ⟨_,Zrz wr _,by simp[madeCells],fun j u hj=>by simp[ZaO]at hj,(Ext.refl wr).alloc _⟩;generalize wr.alloc (.cells (madeCells #[.int .i64 0,.int .i64 0] (U.length*2)) 130)=wm at *
       go_loopw [78] (fun i wi=>∃k:Nat,k≤U.length∧i= .int .i64 k∧Hid (ZcX wr wr.heap.size (fun x=>(ZdA m x,x)) U k wi))
        (fun i _=>U.length - (intOf i).toNat)
       case atStart=>exact⟨0,Nat.zero_le _,rfl,eV⟩
       case round =>
        clear eV;obtain⟨k,hk,rfl,hI⟩:=hrel
        by_cases aD:k<U.length
        ·obtain⟨⟨u0,f0,z0⟩,⟨u1,f1,z1⟩,hX⟩:=hI.out.free aD
         have hc:=hX.cell (yT.out k aD);have bD:=(hM.out.same (hX.below.block _ hM.out.lt)).lookD U[k];have aA:=fun w' h=>hI.out.next (ZrQ _) aD w' h
         generalize j7:U[k]=xk at *;replace j7:=Zrr j7;replace aA:=Zrr aA;go_wp2_with fail;go_roundw
         case rel=>exact⟨k+1,by omega,by go_num,Zrr (aA.out _ rfl)⟩
         case measure=>simp[intOf];omega
        ·obtain rfl:k=U.length:=by omega
         obtain⟨cs,od,cA,iC,hX⟩:=hI.out;have gc:=iW.out.tight.below hX.below;have kV:=Zdl (cap:=U.length) (off:=0) (l:=U.map fun x=>(ZdA m x,x)) gc od (fun j u hj=>by rw[Nat.zero_add];exact iC j u (by rw[List.take_length];exact hj)) (fun hc=>by have:=(List.mem_filter.1 hc).2;simp at this) (by have:=bI.out;have:=io.out;omega) (by simpa using yB) ji.out;have kV:=kV.mono (ZaF.loose (B:=B') (fun k hk=>(List.mem_filter.1 hk).1))
         try dsimp only at kV
         rw[cK,List.length_map]at kV;replace iC:=Zrr iC;replace od:=Zrr od;replace cA:=Zrr cA;clear gc hI;go_wp2_with fail;refine kV.mono ?_;rintro e w9 ⟨rfl,B9,fZ,iA⟩;replace fZ:=Zrr fZ;go_wp2_with fail;go_ret;exact⟨rfl,B9,fZ.out,((jH.then (Stp.of_below (X:=[]) hX.below)).trans iA).weak (fun x hx=>.inr (by have:=io.out;simp at hx;omega))⟩
end Go.Proofs.YtemnmcfmabamcaaGreatDoor
