import Derived.Test.YtmnjakejhbpkoaaGreatDoorVVt
set_option linter.unusedSimpArgs false
set_option linter.unusedVariables false
set_option maxRecDepth 100000
set_option maxHeartbeats 8000000
namespace Go.Proofs.YtmnjakejhbpkoaaGreatDoor
open Go Go.RowKit Go.Shelf
def Zn0 (n:Nat):Value:=.int .i64 (n:Int)
def Zj8 (of:St→Nat→Nat→Option (Nat × St))(B:Zas)(w:World)(vb vo:Nat)(l:List (Nat × Nat))(fin:St × List (Nat × Nat) × List Nat)(k:Nat)(v:Value)(wr:World):Prop :=
 ∃(B':Zas) (sk:St) (m:List (Nat × Nat)) (u:List Nat),Rep B' sk wr∧Stp [] B w B' wr∧ZaG Zab Zab wr w.heap.size (asc m)∧w.heap.size∉B'.mut ∧
   wr.ownsRow w.heap.size 3 1 v u.length (u.map Zn0)∧Zca wr vb vo 165 (ZaL l)∧u.length≤k∧Zcp of (l.drop k) sk m u=some fin
theorem ZiN{α β:Type}[DecidableEq α](enc:α→Value)(encV:β→Value)(w:World):ZaG enc encV (w.alloc (.map #[] 0)) w.heap.size (fun _=>none) :=
 ⟨[],0,Zpm w _,fun a=>rfl,⟨fun e he=>absurd he (by simp),List.nodup_nil⟩⟩
theorem ZaG.putI{w:World}{pm:Nat}{m:List (Nat × Nat)}(h:ZaG Zab Zab w pm (asc m))(a v:Nat) :
  (Instr.mapUpdate 142 (.map (some pm)) (.int .i64 a) (.int .i64 v)).run Tryz.prog w= .ok () (Zap 3 Tryz.prog w pm (Zab a) (Zab v))∧ZaG Zab Zab (Zap 3 Tryz.prog w pm (Zab a) (Zab v)) pm (asc ((a,v) :: m)):=by
 rw[ZaS];exact h.put Zb6 (T:=142) Tryz.underlying142 a v
theorem ZaG.lookI{w:World}{pm:Nat}{m:List (Nat × Nat)}(h:ZaG Zab Zab w pm (asc m))(a:Nat) :
  (Instr.lookup 142 (.map (some pm)) (.int .i64 a) true).run Tryz.prog w= .ok (.tuple #[((asc m a).map Zab).getD (.int .i64 0),.bool (asc m a).isSome]) w :=
 h.look Zb6 (T:=142) Tryz.underlying142 _ Zcn a
theorem ZaG.look1{P:Program}{α β:Type}[DecidableEq α]{K E T:TypeId}{enc:α→Value}{encV:β→Value}{w:World}{b:Nat}{m:α→Option β}(h:ZaG enc encV w b m)(law:Zcx P K enc)
  (hT:P.underlying T=some (.map K E)) (z:Value) (hz:∀w,(zeroValue E).run P w= .ok z w) (a:α) :
  (Instr.lookup T (.map (some b)) (enc a) false).run P w= .ok (((m a).map encV).getD z) w:=by
 obtain⟨L,clock,hb,hm,_⟩:=h;have hf:=hm a;have h2:=law.find a L w
 cases hl:ZaE a L 0 with
 | none =>
   rw[hl]at hf h2;have kP:m a=none:=by simpa using hf.symm
   simp[Instr.lookup,run_underlying hT,Sem.run_bind,getObj,Sem.run,hb,Result.andThen,law.check,h2,hz,kP]
 | some p =>
   rw[hl]at hf h2
   obtain⟨v,hv,xj⟩:∃v,m a=some v∧encV v=p.2:=by
    cases kP:m a with
    | none=>rw[kP]at hf;simp at hf
    | some v=>rw[kP]at hf;exact⟨v,rfl,by simpa using hf.symm⟩
   simp[Instr.lookup,run_underlying hT,Sem.run_bind,getObj,Sem.run,hb,Result.andThen,law.check,h2,hv,xj]
theorem ZaG.lookD{w:World}{pm:Nat}{m:List (Nat × Nat)}(h:ZaG Zab Zab w pm (asc m))(a:Nat) :
  (Instr.lookup 142 (.map (some pm)) (.int .i64 a) false).run Tryz.prog w= .ok (.int .i64 (Zdh m a:Nat)) w:=by
 have h1:=h.look1 Zb6 (T:=142) Tryz.underlying142 _ Zcn a
 have h2:((asc m a).map Zab).getD (.int .i64 0)= .int .i64 (Zdh m a:Nat):=by
  unfold Zdh
  cases asc m a <;> rfl
 rw[h2]at h1;exact h1
theorem Zlp{B:Zas}{s:St}{w:World}{pm:Nat}{m:List (Nat × Nat)}(h:Rep B s w)(hm:ZaG Zab Zab w pm (asc m))(aH:pm∉B.mut)(hg:pm≠ZcR∧pm≠gTz)(k v:Value) :
  Rep B s (Zap 3 Tryz.prog w pm k v)∧Stp [pm] B w B (Zap 3 Tryz.prog w pm k v):=by
 obtain⟨L,cl,hb,_⟩:=hm;refine⟨h.offMap hb aH hg (fun j hj=>Zai _ _ _ _ _ j hj),Stp.of_but ?_ (by rw[Za1];exact ZpD _) (fun j _ hj=>Zai _ _ _ _ _ j (by simpa using hj))⟩;obtain⟨a1,a2,a3,_⟩:=ZbQ (P:=Tryz.prog) 3 w pm k v;exact⟨a1,a2,a3⟩
theorem Zjw{B:Zas}{s:St}{w w':World}{base n:Nat}{v:Value}{xs:List Value}(h:Rep B s w)(hO:w.ownsRow base 3 1 v n xs)(hb:ZcR<base∧gTz<base)(hg:w.grownBy w' v.ownBlock) :
  Rep B s w'∧Stp v.ownBlock.toList B w B w'∧∀(k:Nat) (o:Obj),w.heap[k]? =some o→(∀(c:Array Value) (f:Nat × Nat),o≠Obj.cells c 3 f)→w'.heap[k]? =some o:=by
 have dp:∀(k:Nat) (o:Obj),w.heap[k]? =some o→(∀(c:Array Value) (f:Nat × Nat),o≠Obj.cells c 3 f)→w'.heap[k]? =some o:=by
  intro k o hk ho;refine(hg.block k (Zpi hk).1 ?_).trans hk;obtain⟨_,⟨rfl,_⟩|⟨g,cap,cur,rfl,_,hh,_⟩⟩:=hO
  ·simp[Value.ownBlock]
  ·simp only[Value.ownBlock]
   intro e
   cases e
   rw[hh]at hk
   cases hk
   exact ho _ _ rfl
 have dZ:∀k,k<base→k<w.heap.size→w'.heap[k]? =w.heap[k]?:=by
  intro k hk hl;refine hg.block k hl ?_;intro e;have:=Zbc hO e.symm;omega
 refine⟨?_,Stp.of_but ⟨hg.os,hg.tape,hg.output⟩ hg.size (fun k hk hX=>hg.block k hk (fun e=>hX (by rw[←e];simp))),dp⟩;obtain⟨a1,a2,a3,⟨nv,vs,aW,bu,he⟩,⟨tcs,tfz,a5,a5'⟩,⟨L6,c6,a6,b6⟩,⟨L7,c7,a7,b7⟩,⟨L8,c8,a8,b8⟩,⟨L9,c9,a9,b9⟩,uq,ur⟩:=h;obtain⟨cn,tw⟩:=bu.nbk
 refine⟨a1.same (dZ _ hb.2 a1.lt'),a2.same (dZ _ hb.1 a2.lt),a3,⟨nv,vs,dp _ _ aW (by simp[ZaU]),⟨bu.len,Zao bu.own ?_,bu.blk,fun i hi hv=>(bu.els i hi hv).same fun b c fz aP=>(dp _ _ aP (by simp[ZaO])).trans aP.symm⟩,he⟩,
  ⟨tcs,tfz,dp _ _ a5 (by simp),a5'⟩,⟨L6,c6,dp _ _ a6 (by simp),b6⟩,⟨L7,c7,dp _ _ a7 (by simp),b7⟩,⟨L8,c8,dp _ _ a8 (by simp),b8⟩,⟨L9,c9,dp _ _ a9 (by simp),b9⟩,uq,ur⟩
 intro k hk;rw[bu.blk]at hk
 cases hk
 exact(dp _ _ tw (by simp[Za6])).trans tw.symm
def Zcu (w:World)(b:Nat)(f:Nat→Nat × Nat)(U:List Nat)(k:Nat)(w':World):Prop :=
 ∃cs:Array Value,w'.heap[b]? =some (.cells cs ZaO (0,0))∧cs.size=U.length*2∧(∀(j:Nat) (u:Value),(ZaL ((U.take k).map f))[j]? =some u→cs[j]? =some u)∧Ext w w'
theorem Zcu.free{w w':World}{b:Nat}{f:Nat→Nat × Nat}{U:List Nat}{k:Nat}(h:Zcu w b f U k w')(hk:k<U.length) :
  (∃u,w'.cell? ⟨b,k*2,none⟩=some u∧w'.frozen? ⟨b,k*2,none⟩=false)∧(∃u,w'.cell? ⟨b,k*2+1,none⟩=some u∧w'.frozen? ⟨b,k*2+1,none⟩=false)∧Ext w w':=by
 obtain⟨cs,h1,h2,h3,h4⟩:=h;refine⟨⟨cs[k*2]'(by omega),?_,?_⟩,⟨cs[k*2+1]'(by omega),?_,?_⟩,h4⟩
 ·simp[World.cell?,h1]
 ·simp[World.frozen?,h1]
 ·simp[World.cell?,h1]
 ·simp[World.frozen?,h1]
theorem Zcu.next{w w1:World}{b:Nat}{f:Nat→Nat × Nat}{U:List Nat}{k:Nat}(h:Zcu w b f U k w1)(hb:w.heap.size≤b)(hk:k<U.length)(w':World)
  (e:w'=(w1.setCell ⟨b,k*2,none⟩ (.int .i64 ((f U[k]).1:Nat))).setCell ⟨b,k*2+1,none⟩ (.int .i64 ((f U[k]).2:Nat))):Zcu w b f U (k+1) w':=by
 obtain⟨cs,h1,h2,h3,h4⟩:=h;subst e;refine⟨_,Zag (Zag h1 _ _) _ _,by simpa using h2,fun j u hj=>?_,(h4.setCell hb _).setCell hb _⟩;rw[List.take_succ_eq_append_getElem hk,List.map_append]at hj;simp only[ZaL,List.flatMap_append,List.map_cons,List.map_nil,List.flatMap_cons,List.flatMap_nil,List.append_nil]at hj
 have hl:(((U.take k).map f).flatMap fun p=>[Value.int .i64 (p.1:Int),Value.int .i64 (p.2:Int)]).length=2*k:=by
  have:=ZcD ((U.take k).map f);simpa [ZaL,Nat.min_eq_left (Nat.le_of_lt hk)] using this
 rw[Array.getElem?_setIfInBounds,Array.getElem?_setIfInBounds]
 by_cases cx:j<2*k
 ·rw[List.getElem?_append_left (by omega)]at hj
  rw[if_neg (by omega),if_neg (by omega)];exact h3 j u hj
 ·rw[List.getElem?_append_right (by omega),hl]at hj
  obtain⟨i,rfl⟩:∃i,j=2*k+i:=⟨j - 2*k,by omega⟩;rw[show 2*k+i - 2*k=i from by omega]at hj
  match i,hj with
  | 0,hj =>
    rw[if_neg (by omega),if_pos (by omega)];simp at hj;rw[if_pos (by omega),←hj]
  | 1,hj =>
    rw[if_pos (by omega)];simp at hj;rw[if_pos (by simp;omega),←hj]
  | i+2,hj=>simp at hj
theorem Zh3{of:St→Nat→Nat→Option (Nat × St)}{p:Nat × Nat}{r:List (Nat × Nat)}{s:St}{m:List (Nat × Nat)}{u:List Nat}{fin:St × List (Nat × Nat) × List Nat}(h:Zcp of (p :: r) s m u=some fin) :
  (∃q z s1,asc m p.2=some q∧of s q p.1=some (z,s1)∧Zcp of r s1 ((p.2,z) :: m) u=some fin)∨(asc m p.2=none∧Zcp of r s ((p.2,p.1) :: m) (u++[p.2])=some fin):=by
 unfold Zcp at h
 split at h
 ·rename_i q hq
  split at h
  ·cases h
  ·rename_i z s1 hz
   exact .inl ⟨q,z,s1,hq,hz,h⟩
 ·rename_i hq
  exact .inr ⟨hq,h⟩
theorem Zmr{of:St→Nat→Nat→Option (Nat × St)}(ih:ZlY of){B:Zas}{s s':St}{w:World}{l:List (Nat × Nat)}{v:Value}{pl r:Nat}(h:Rep B s w)(hv:ZcM w v l)(he:ZjG of s pl l=some (r,s')) :
  Calls Tryz.prog 197 #[.pointer (some ⟨B.sb,0,none⟩),.int .i64 pl,v] w (ZaB [] (.int .i64 r) B s' w):=by
 obtain⟨ba,cp,rfl,ap⟩:=hv;unfold ZjG at he
 split at he
 ·cases he
 rename_i s1 m1 u1 dD
 split at dD
 rotate_left
 ·cases dD
 rename_i aL
 have dE:l≠[]:=by
  rintro rfl;simp only[Zcp,Zpw,Prod.mk.injEq]at dD;obtain⟨_,_,rfl⟩:=dD;simp[Zbn]at he
 obtain⟨vb,vo,rfl,aJ⟩:∃vb vo,ba=some ⟨vb,vo,none⟩∧Zca w vb vo 165 (ZaL l):=by
  rcases ap with ⟨_,e,_⟩|⟨vb,vo,e,hr⟩
  ·exact absurd e dE
  ·exact⟨vb,vo,e,hr⟩
 clear ap;obtain⟨i0,cX,bB,ak,bE⟩:=info_parts Zgg;have aV:Ext w (w.alloc (.map #[] 0)):=(Ext.refl w).alloc _;have p5:w.heap.size<(w.alloc (.map #[] 0)).heap.size:=by simp
 have aw:ZcR<w.heap.size∧gTz<w.heap.size:=⟨h.pow.lt,h.tz.lt'⟩;have hg:w.heap.size≠ZcR∧w.heap.size≠gTz:=by omega
 replace aw:=Zpe aw
 have aQ:Hid (Zj8 of B w vb vo l (s1,m1,u1) 0 (.slice none 0 0) (w.alloc (.map #[] 0))):=Zpe
  ⟨B,s,[],[],h.below aV.below,Stp.of_below aV.below,ZiN _ _ w,(fun hc=>Nat.lt_irrefl _ (h.mut_old _ hc)),World.ownsRow_nil _ _ _ _,aJ.same (aV.below.block _ aJ.lt),ZpD _,dD⟩
 replace he:=Zpe he;replace dE:=Zpe dE;clear dD aJ h aV;have ji:∀w,(Instr.makeMap 142 none).run Tryz.prog w= .ok (.map (some w.heap.size)) (w.alloc (.map #[] 0)):=fun w=>rfl
 go_enter Tryz.func197,Tryz.ntmps197
 go_wp2_with fail;generalize w.alloc (.map #[] 0)=w1 at *
 go_loopw [8,19] (fun v i wr=>∃k:Nat,k≤l.length∧i= .int .i64 k∧Hid (Zj8 of B w vb vo l (s1,m1,u1) k v wr))
  (fun _ i _=>l.length - (intOf i).toNat)
 case atStart=>exact⟨0,Nat.zero_le _,rfl,aQ⟩
 case round =>
  clear aQ;obtain⟨k,hk,rfl,hI⟩:=hrel;obtain⟨B',sk,m,u,eu,fP,hM,ep,hO,aJ,pU,da⟩:=hI.out;clear hI;have fF:B'.sb=B.sb:=fP.sb
  by_cases aE:k<l.length
  ·obtain⟨e0,e1⟩:=aJ.off0 k aE
   rw[List.drop_eq_getElem_cons aE]at da;generalize l[k]=p at *;obtain⟨p1,p2⟩:=p;simp only at e0 e1;have jS:=Zpm wr (.cells #[.int .i64 p1,.int .i64 p2] 165);have aC:Ext wr (wr.alloc (.cells #[.int .i64 p1,.int .i64 p2] 165)):=(Ext.refl wr).alloc _;have gX:=hM.same (aC.below.block _ hM.lt);have az:=gX.lookI p2;have bW:=fP.fr.size;have xU:=Zh3 da;clear da;rcases xU with ⟨q,z,s2,hq,pH,da⟩|⟨hq,da⟩
   ·rw[hq]at az
    have eG:(Instr.lookup 142 (.map (some w.heap.size)) (.int .i64 p2) true).run Tryz.prog (wr.alloc (.cells #[.int .i64 p1,.int .i64 p2] 165))= .ok (.tuple #[.int .i64 q,.bool true]) (wr.alloc (.cells #[.int .i64 p1,.int .i64 p2] 165)):=az;have xi:=hM.lt;have aU:=eu.below aC.below;have bO:Stp [] B w B' (wr.alloc (.cells #[.int .i64 p1,.int .i64 p2] 165)):=fP.then (Stp.of_below aC.below)
    have mF:=Zao (w':=wr.alloc (.cells #[.int .i64 p1,.int .i64 p2] 165)) hO (fun g hg=>aC.below.block g (by
     obtain⟨_,⟨e,_⟩|⟨g',cap,cur,e,_,hh,_⟩⟩:=hO
     ·rw[e]at hg;simp[Value.ownBlock]at hg
     ·rw[e]at hg;simp[Value.ownBlock]at hg;subst hg;exact(Zpi hh).1))
    have eU:=aJ.same (aC.below.block _ aJ.lt);clear az hO aJ eu hM;obtain⟨b0,b1⟩:=Zae jS;replace jS:=Zpe jS;replace mF:=Zpe mF;replace gX:=Zpe gX;replace aU:=Zpe aU;replace eU:=Zpe eU;replace da:=Zpe da;replace hq:=Zpe hq;replace pH:=Zpe pH;go_wp2_with fail;generalize wr.alloc (.cells #[.int .i64 p1,.int .i64 p2] 165)=w2 at *;have be:=ih B' sk s2 w2.drew q p1 z (aU.out.below ((Zpr _ w2).drew)) pH.out;rw[fF]at be;have hd:w2.drew.heap=w2.heap:=rfl;have dbn:w2.drew.heap[wr.heap.size]? =some (.cells #[.int .i64 p1,.int .i64 p2] ZaO (0,0)):=jS.out;have uT:wr.heap.size∉B'.mut:=aU.out.not_mut jS.out (by decide) (by decide);replace dbn:=Zpe dbn;clear hd
    go_region_with (go_at_call 109;refine be.mono ?_;rintro e w5 ⟨rfl,B5,eP,cT⟩;have aj:=cT.keep dbn.out uT (by simp);obtain⟨c0,c1⟩:=Zae aj;have tk:=gX.out.same (w':=w5) (cT.fr.block _ gX.out.lt (by simpa using ep));obtain⟨lu,rH⟩:=tk.putI p2 z;have rH:=Zpe rH;have tk:=Zpe tk;have eP:=Zpe eP;have cT:=Zpe cT;clear aj)
    all_goals
     have sn:w.heap.size∉B5.mut:=fun hc=>by
      rcases cT.out.new _ hc with h1|h1
      ·exact ep h1
      ·have:=gX.out.lt
       have e:w2.drew.heap.size=w2.heap.size:=rfl;omega
     obtain⟨df,cE⟩:=Zlp eP.out tk.out sn hg (Zab p2) (Zab z)
     have hK:∀(j:Nat) (c:Array Value) (t:TypeId) (f:Nat × Nat),w2.heap[j]? =some (Obj.cells c t f)→t≠Za6→t≠ZaU→(Zap 3 Tryz.prog w5 w.heap.size (Zab p2) (Zab z)).heap[j]? =w2.heap[j]?:=fun j c t f hj h1 h2=>by
      have aH:j≠w.heap.size:=fun e=>by
       obtain⟨L,cl,aP,_⟩:=gX.out;rw[e,aP]at hj;simp at hj
      rw[Zai _ _ _ _ _ j aH,hj];exact cT.out.keep (w:=w2.drew) hj (aU.out.not_mut hj h1 h2) (by simp)
     have qD:=Zao (w':=Zap 3 Tryz.prog w5 w.heap.size (Zab p2) (Zab z)) mF.out (fun g fA=>by
      obtain⟨_,⟨e2,_⟩|⟨g',cap,cur,e2,_,hh,_⟩⟩:=mF.out
      ·rw[e2]at fA;simp[Value.ownBlock]at fA
      ·rw[e2]at fA;simp[Value.ownBlock]at fA;subst fA
       exact hK _ _ _ _ hh (by decide) (by decide))
     have iF:Zca (Zap 3 Tryz.prog w5 w.heap.size (Zab p2) (Zab z)) vb vo 165 (ZaL l):=by
      obtain⟨c,fz,hb,hh⟩:=eU.out;exact⟨c,fz,(hK _ _ _ _ hb (by decide) (by decide)).trans hb,hh⟩
     have aM:Hid (Zj8 of B w vb vo l (s1,m1,u1) (k+1) u8 (Zap 3 Tryz.prog w5 w.heap.size (Zab p2) (Zab z))):=Zpe
      ⟨B5,s2,(p2,z) :: m,u,df,((bO.then ((Stp.of_below (X:=[]) ((Zpr _ w2).drew)).then cT.out)).trans cE).weak (fun x hx=>by simp at hx;subst hx;exact .inr (ZpD _)),rH.out,sn,qD,iF,by omega,da.out⟩
     clear qD iF hK df cE lu;generalize Zap 3 Tryz.prog w5 w.heap.size (Zab p2) (Zab z)=w6 at *;go_wp2_with fail;go_roundw
     case rel=>exact⟨k+1,by omega,by go_num,aM⟩
     case measure=>simp[intOf];omega
   ·rw[hq]at az
    have eG:(Instr.lookup 142 (.map (some w.heap.size)) (.int .i64 p2) true).run Tryz.prog (wr.alloc (.cells #[.int .i64 p1,.int .i64 p2] 165))= .ok (.tuple #[.int .i64 0,.bool false]) (wr.alloc (.cells #[.int .i64 p1,.int .i64 p2] 165)):=az;have xi:=hM.lt
    have mF:=Zao (w':=wr.alloc (.cells #[.int .i64 p1,.int .i64 p2] 165)) hO (fun g hg=>aC.below.block g (by
     obtain⟨_,⟨e,_⟩|⟨g',cap,cur,e,_,hh,_⟩⟩:=hO
     ·rw[e]at hg;simp[Value.ownBlock]at hg
     ·rw[e]at hg;simp[Value.ownBlock]at hg;subst hg;exact(Zpi hh).1))
    have aU:=eu.below aC.below;have eU:=aJ.same (aC.below.block _ aJ.lt);clear az hO aJ eu hM;obtain⟨b0,b1⟩:=Zae jS;obtain⟨lu,rG⟩:=gX.putI p2 p1;obtain⟨bM,aZ⟩:=Zlp aU gX ep hg (Zab p2) (Zab p1);have gI:∀j,j≠w.heap.size→(Zap 3 Tryz.prog (wr.alloc (.cells #[.int .i64 p1,.int .i64 p2] 165)) w.heap.size (Zab p2) (Zab p1)).heap[j]? =(wr.alloc (.cells #[.int .i64 p1,.int .i64 p2] 165)).heap[j]?:=fun j hj=>Zai _ _ _ _ _ j hj
    have bO:Stp [] B w B' (wr.alloc (.cells #[.int .i64 p1,.int .i64 p2] 165)):=fP.then (Stp.of_below aC.below)
    generalize wE:Zap 3 Tryz.prog (wr.alloc (.cells #[.int .i64 p1,.int .i64 p2] 165)) w.heap.size (Zab p2) (Zab p1)=w2 at *;have di:=(gI wr.heap.size (by omega)).trans jS
    have dK:=eU.same (gI vb (by
     intro e;obtain⟨c,fz,hb,_⟩:=eU;obtain⟨L,cl,aP,_⟩:=gX;rw[e,aP]at hb;simp at hb))
    have mG:=Zao (w':=w2) mF (fun g fA=>gI g (by
     intro e;obtain⟨_,⟨e2,_⟩|⟨g',cap,cur,e2,_,hh,_⟩⟩:=mF
     ·rw[e2]at fA;simp[Value.ownBlock]at fA
     ·rw[e2]at fA;simp[Value.ownBlock]at fA;subst fA
      obtain⟨L,cl,aP,_⟩:=gX;rw[e,aP]at hh;simp at hh))
    have lM:w2.heap.size=wr.heap.size+1:=by rw[←wE,Za1];simp
    obtain⟨d0,d1⟩:=Zae di;replace jS:=Zpe jS;replace di:=Zpe di;replace mF:=Zpe mF;replace gX:=Zpe gX;replace rG:=Zpe rG;replace aU:=Zpe aU;replace bM:=Zpe bM;replace eU:=Zpe eU;replace da:=Zpe da;replace wE:=Zpe wE;replace hq:=Zpe hq;clear gI
    go_wp2_with (at_builtin;refine wpList_append_own _ rfl _ _ 45 rfl w.heap.size 3 i0 (.int .i64 0) 1 8 Tryz.underlying45 cX bB ak bE rfl (by decide) _ _ _ rfl (mG.alloc _) ⟨wr.heap.size+1,0,none⟩ 1 1 [.int .i64 p2] rfl rfl (ZaP _ _ _ _ lM.symm) (by simp[Value.oneCell']) (by unfold maxLen;omega) (by omega) (by simp;omega) ?_;intro v3 w3 cZ dS _)
    have gM:Ext w2 (w2.alloc (.cells #[.int .i64 p2] 3)):=(Ext.refl w2).alloc _;obtain⟨fO,bd,hK3⟩:=Zjw (bM.out.below gM.below) (mG.alloc _) aw.out dS;go_roundw
    case rel =>
     refine⟨k+1,by omega,by go_num,Zpe ⟨B',sk,(p2,p1) :: m,u++[p2],fO,?_,?_,ep,?_,?_,by simp;omega,da.out⟩⟩
     ·refine(((bO.trans aZ).trans (Stp.of_below (X:=[]) gM.below)).trans bd).weak (fun x hx=>?_)
      simp only[List.nil_append,List.append_nil,List.mem_append,List.mem_singleton]at hx;rcases hx with rfl|hx
      ·exact .inr (ZpD _)
      ·refine .inr (Zbc mG (k:=x) (by simpa using hx))
     ·obtain⟨L,cl,hb,hh⟩:=rG.out
      exact⟨L,cl,hK3 _ _ ((gM.below.block _ (Zpi hb).1).trans hb) (by simp),hh⟩
     ·exact ZaW cZ (by simp) (by simp[Zn0])
     ·obtain⟨c,fz,hb,hh⟩:=dK
      exact⟨c,fz,hK3 _ _ ((gM.below.block _ (Zpi hb).1).trans hb) (by simp),hh⟩
    case measure=>simp[intOf];omega
  ·obtain rfl:k=l.length:=by omega
   simp only[List.drop_length,Zcp,Zpw,Prod.mk.injEq]at da;obtain⟨rfl,rfl,rfl⟩:=da
   obtain⟨x,rest,hu⟩:∃x rest,u=x :: rest:=by
    cases u with
    | nil=>have:=he.out;simp[Zbn]at this
    | cons x rest=>exact⟨x,rest,rfl⟩
   subst hu;obtain⟨_,⟨_,e⟩|⟨g,cap,cur,rfl,bk,bV,hn,hm,aO,ht⟩⟩:=hO
   ·simp at e
   have aT:∀j (hj:j<(x :: rest).length),wr.cell? ⟨g,j,none⟩=some (.int .i64 ((x :: rest)[j]:Nat)):=fun j hj=>by
    have h1:((x :: rest).map Zn0)[j]? =some (Zn0 (x :: rest)[j]):=by rw[List.getElem?_map,Zpl hj];rfl
    rw[←ht,List.getElem?_take]at h1
    split at h1
    ·have h2:cur[j]? =some (Zn0 (x :: rest)[j]):=by simpa using h1
     simp[World.cell?,bV,h2,Zn0]
    ·simp at h1
   have iA:=fun a=>hM.lookD a
   clear ht aO hm hn
   cases rest with
   | nil =>
     have il:=he.out;simp only[Zpw,Prod.mk.injEq]at il;obtain⟨rfl,rfl⟩:=il;have c0:=aT 0 (by simp);simp only[List.getElem_cons_zero]at c0;clear aT iA;replace hM:=Zpe hM;replace aJ:=Zpe aJ;replace eu:=Zpe eu;simp only[ZpC,List.length_nil,Nat.zero_add];go_wp2_with fail;go_ret;exact⟨rfl,B',eu.out,fP⟩
   | cons y rest =>
     have c0:=aT 0 (by simp);have c1:=aT 1 (by simp);simp only[List.getElem_cons_zero,List.getElem_cons_succ]at c0 c1
     by_cases hr:rest=[]∧x<2∧y<2
     ·obtain⟨rfl,aF,nt⟩:=hr
      have il:=he.out;simp only[aF,nt,and_self,if_true,Zpw,Prod.mk.injEq]at il;obtain⟨rfl,rfl⟩:=il;have fJ:(Instr.lookup 142 (.map (some w.heap.size)) (.int .i64 1) false).run Tryz.prog wr= .ok (.int .i64 (Zdh m 1:Nat)) wr:=iA 1;have fg:decide ((x:Int)<2)=true:=Zpv (by omega);have hd2:decide ((y:Int)<2)=true:=Zpv (by omega);clear aT iA;replace hM:=Zpe hM;replace aJ:=Zpe aJ;replace eu:=Zpe eu;simp only[ZpC,List.length_nil,Nat.zero_add];go_wp2_with fail;go_ret;exact⟨rfl,B',eu.out,fP⟩
     ·obtain⟨U,hU⟩:∃U,x :: y :: rest=U:=⟨_,rfl⟩
      have gB:Hid (Zbn sk pl (U.map fun x=>(Zdh m x,x))=some (r,s')):=Zpe (by
       have il:=he.out;rw[←hU]
       cases rest with
       | nil =>
         have dH:¬ (x<2∧y<2):=fun e=>hr ⟨rfl,e⟩
         simpa [dH] using il
       | cons z rest=>exact il)
      have hU2:2≤U.length:=by rw[←hU];simp
      obtain⟨ip,sM,xm,sx,dF⟩:=info_parts ZeU;have wC:U.length≤1048576:=by rw[hU]at pU;omega
      have sV:∀w:World,(Instr.makeSlice 156 (.int .i64 U.length) (.int .i64 U.length)).run Tryz.prog w= .ok (.slice (some ⟨w.heap.size,0,none⟩) U.length U.length) (w.alloc (.cells (madeCells #[.int .i64 0,.int .i64 0] (U.length*2)) 165)):=fun w=>by
       have h1:=run_make (P:=Tryz.prog) w 156 165 ip _ Tryz.underlying156 sM xm .i64 .i64 U.length U.length (by omega) (Int.le_refl _) (by rw[dF];omega) (by omega);simp only[Int.toNat_natCast,sx]at h1;exact h1
      have ri:∀j (hj:j<U.length),wr.cell? ⟨g,j,none⟩=some (.int .i64 (U[j]:Nat)):=by rw[←hU];exact aT
      have h21:((U.length:Int) ==1)=false:=by simp;omega
      have hXY:(((U.length:Int) ==2)=false)∨(((U.length:Int) ==2)=true∧decide ((x:Int)<2)=false)∨(((U.length:Int) ==2)=true∧decide ((x:Int)<2)=true∧decide ((y:Int)<2)=false):=by
       cases rest with
       | nil =>
         have ox:U.length=2:=by rw[←hU];rfl
         rw[ox]
         by_cases aF:x<2
         ·have nt:¬ y<2:=fun e=>hr ⟨rfl,aF,e⟩
          exact .inr (.inr ⟨rfl,Zpv (by omega),Zpu (by omega)⟩)
         ·exact .inr (.inl ⟨rfl,Zpu (by omega)⟩)
       | cons z rest =>
         have ox:U.length=rest.length+3:=by rw[←hU];simp
         exact .inl (by rw[ox];simp;omega)
      have gl1:(0:Int)<U.length:=by omega
      have gl2:(1:Int)<U.length:=by omega
      rw[hU];clear aT;replace ri:=Zpe ri;replace iA:=Zpe iA;replace hM:=Zpe hM;replace aJ:=Zpe aJ;replace eu:=Zpe eu;replace bV:=Zpe bV;replace hU:=Zpe hU;have jq:=Zpe fP.fr.size;rcases hXY with q1|⟨q1,q2⟩|⟨q1,q2,q3⟩
      ·skip
       go_wp2_with fail;have cV:Hid (Zcu wr wr.heap.size (fun x=>(Zdh m x,x)) U 0 (wr.alloc (.cells (madeCells #[.int .i64 0,.int .i64 0] (U.length*2)) 165))):=Zpe ⟨_,Zpm wr _,by simp[madeCells],fun j u hj=>by simp[ZaL]at hj,(Ext.refl wr).alloc _⟩;generalize wr.alloc (.cells (madeCells #[.int .i64 0,.int .i64 0] (U.length*2)) 165)=wm at *
       go_loopw [78] (fun i wi=>∃k:Nat,k≤U.length∧i= .int .i64 k∧Hid (Zcu wr wr.heap.size (fun x=>(Zdh m x,x)) U k wi))
        (fun i _=>U.length - (intOf i).toNat)
       case atStart=>exact⟨0,Nat.zero_le _,rfl,cV⟩
       case round =>
        clear cV;obtain⟨k,hk,rfl,hI⟩:=hrel
        by_cases aE:k<U.length
        ·obtain⟨⟨u0,f0,z0⟩,⟨u1,f1,z1⟩,hX⟩:=hI.out.free aE
         have hc:=hX.cell (ri.out k aE);have az:=(hM.out.same (hX.below.block _ hM.out.lt)).lookD U[k];have aM:=fun w' h=>hI.out.next (ZpD _) aE w' h
         generalize fL:U[k]=xk at *;replace fL:=Zpe fL;replace aM:=Zpe aM;go_wp2_with fail;go_roundw
         case rel=>exact⟨k+1,by omega,by go_num,Zpe (aM.out _ rfl)⟩
         case measure=>simp[intOf];omega
        ·obtain rfl:k=U.length:=by omega
         obtain⟨cs,bm,aO,bR,hX⟩:=hI.out;have nD:=eu.out.tight.below hX.below;have gq:=ZcQ (cap:=U.length) (off:=0) (l:=U.map fun x=>(Zdh m x,x)) nD bm (fun j u hj=>by rw[Nat.zero_add];exact bR j u (by rw[List.take_length];exact hj)) (fun hc=>by have:=(List.mem_filter.1 hc).2;simp at this) (by have:=aw.out;have:=jq.out;omega) (by simpa using wC) gB.out;have gq:=gq.mono (ZaB.loose (B:=B') (fun k hk=>(List.mem_filter.1 hk).1))
         try dsimp only at gq
         rw[fF,List.length_map]at gq;replace bR:=Zpe bR;replace bm:=Zpe bm;replace aO:=Zpe aO;clear nD hI;go_wp2_with fail;refine gq.mono ?_;rintro e w9 ⟨rfl,B9,fv,cP⟩;replace fv:=Zpe fv;go_wp2_with fail;go_ret;exact⟨rfl,B9,fv.out,((fP.then (Stp.of_below (X:=[]) hX.below)).trans cP).weak (fun x hx=>.inr (by have:=jq.out;simp at hx;omega))⟩
      ·skip
       go_wp2_with fail;have cV:Hid (Zcu wr wr.heap.size (fun x=>(Zdh m x,x)) U 0 (wr.alloc (.cells (madeCells #[.int .i64 0,.int .i64 0] (U.length*2)) 165))):=Zpe ⟨_,Zpm wr _,by simp[madeCells],fun j u hj=>by simp[ZaL]at hj,(Ext.refl wr).alloc _⟩;generalize wr.alloc (.cells (madeCells #[.int .i64 0,.int .i64 0] (U.length*2)) 165)=wm at *
       go_loopw [78] (fun i wi=>∃k:Nat,k≤U.length∧i= .int .i64 k∧Hid (Zcu wr wr.heap.size (fun x=>(Zdh m x,x)) U k wi))
        (fun i _=>U.length - (intOf i).toNat)
       case atStart=>exact⟨0,Nat.zero_le _,rfl,cV⟩
       case round =>
        clear cV;obtain⟨k,hk,rfl,hI⟩:=hrel
        by_cases aE:k<U.length
        ·obtain⟨⟨u0,f0,z0⟩,⟨u1,f1,z1⟩,hX⟩:=hI.out.free aE
         have hc:=hX.cell (ri.out k aE);have az:=(hM.out.same (hX.below.block _ hM.out.lt)).lookD U[k];have aM:=fun w' h=>hI.out.next (ZpD _) aE w' h
         generalize fL:U[k]=xk at *;replace fL:=Zpe fL;replace aM:=Zpe aM;go_wp2_with fail;go_roundw
         case rel=>exact⟨k+1,by omega,by go_num,Zpe (aM.out _ rfl)⟩
         case measure=>simp[intOf];omega
        ·obtain rfl:k=U.length:=by omega
         obtain⟨cs,bm,aO,bR,hX⟩:=hI.out;have nD:=eu.out.tight.below hX.below;have gq:=ZcQ (cap:=U.length) (off:=0) (l:=U.map fun x=>(Zdh m x,x)) nD bm (fun j u hj=>by rw[Nat.zero_add];exact bR j u (by rw[List.take_length];exact hj)) (fun hc=>by have:=(List.mem_filter.1 hc).2;simp at this) (by have:=aw.out;have:=jq.out;omega) (by simpa using wC) gB.out;have gq:=gq.mono (ZaB.loose (B:=B') (fun k hk=>(List.mem_filter.1 hk).1))
         try dsimp only at gq
         rw[fF,List.length_map]at gq;replace bR:=Zpe bR;replace bm:=Zpe bm;replace aO:=Zpe aO;clear nD hI;go_wp2_with fail;refine gq.mono ?_;rintro e w9 ⟨rfl,B9,fv,cP⟩;replace fv:=Zpe fv;go_wp2_with fail;go_ret;exact⟨rfl,B9,fv.out,((fP.then (Stp.of_below (X:=[]) hX.below)).trans cP).weak (fun x hx=>.inr (by have:=jq.out;simp at hx;omega))⟩
      ·skip
       go_wp2_with fail;have cV:Hid (Zcu wr wr.heap.size (fun x=>(Zdh m x,x)) U 0 (wr.alloc (.cells (madeCells #[.int .i64 0,.int .i64 0] (U.length*2)) 165))):=Zpe ⟨_,Zpm wr _,by simp[madeCells],fun j u hj=>by simp[ZaL]at hj,(Ext.refl wr).alloc _⟩;generalize wr.alloc (.cells (madeCells #[.int .i64 0,.int .i64 0] (U.length*2)) 165)=wm at *
       go_loopw [78] (fun i wi=>∃k:Nat,k≤U.length∧i= .int .i64 k∧Hid (Zcu wr wr.heap.size (fun x=>(Zdh m x,x)) U k wi))
        (fun i _=>U.length - (intOf i).toNat)
       case atStart=>exact⟨0,Nat.zero_le _,rfl,cV⟩
       case round =>
        clear cV;obtain⟨k,hk,rfl,hI⟩:=hrel
        by_cases aE:k<U.length
        ·obtain⟨⟨u0,f0,z0⟩,⟨u1,f1,z1⟩,hX⟩:=hI.out.free aE
         have hc:=hX.cell (ri.out k aE);have az:=(hM.out.same (hX.below.block _ hM.out.lt)).lookD U[k];have aM:=fun w' h=>hI.out.next (ZpD _) aE w' h
         generalize fL:U[k]=xk at *;replace fL:=Zpe fL;replace aM:=Zpe aM;go_wp2_with fail;go_roundw
         case rel=>exact⟨k+1,by omega,by go_num,Zpe (aM.out _ rfl)⟩
         case measure=>simp[intOf];omega
        ·obtain rfl:k=U.length:=by omega
         obtain⟨cs,bm,aO,bR,hX⟩:=hI.out;have nD:=eu.out.tight.below hX.below;have gq:=ZcQ (cap:=U.length) (off:=0) (l:=U.map fun x=>(Zdh m x,x)) nD bm (fun j u hj=>by rw[Nat.zero_add];exact bR j u (by rw[List.take_length];exact hj)) (fun hc=>by have:=(List.mem_filter.1 hc).2;simp at this) (by have:=aw.out;have:=jq.out;omega) (by simpa using wC) gB.out;have gq:=gq.mono (ZaB.loose (B:=B') (fun k hk=>(List.mem_filter.1 hk).1))
         try dsimp only at gq
         rw[fF,List.length_map]at gq;replace bR:=Zpe bR;replace bm:=Zpe bm;replace aO:=Zpe aO;clear nD hI;go_wp2_with fail;refine gq.mono ?_;rintro e w9 ⟨rfl,B9,fv,cP⟩;replace fv:=Zpe fv;go_wp2_with fail;go_ret;exact⟨rfl,B9,fv.out,((fP.then (Stp.of_below (X:=[]) hX.below)).trans cP).weak (fun x hx=>.inr (by have:=jq.out;simp at hx;omega))⟩
end Go.Proofs.YtmnjakejhbpkoaaGreatDoor
