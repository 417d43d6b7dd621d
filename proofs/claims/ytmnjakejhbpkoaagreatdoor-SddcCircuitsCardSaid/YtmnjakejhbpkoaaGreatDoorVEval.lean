import Derived.Test.YtmnjakejhbpkoaaGreatDoorVNew
import Derived.Laws.EntriesVeiled
set_option linter.unusedSimpArgs false
set_option linter.unusedVariables false
set_option maxRecDepth 100000
set_option maxHeartbeats 4000000
namespace Go.Proofs.YtmnjakejhbpkoaaGreatDoor
open Go Go.RowKit Go.Shelf
def Ze5 (g:Nat→Option Bool):List (Nat × Nat)→Option Nat
 | []=>none
 | p :: r=>match g p.1 with
   | none=>none
   | some true=>some p.2
   | some false=>Ze5 g r
def ZlV (l:Int):Int:=if 0<l then l else -l
def Zc5:Nat→List Zaf→Nat→Zak→Option Bool
 | 0,_,_,_=>none
 | f+1,ns,a,x=>match ns[a]? with
   | none=>none
   | some n=>if 0≤n.pl∧n.lit=0 then
      match Ze5 (fun p=>Zc5 f ns p x) n.el with
      | none=>none
      | some b=>Zc5 f ns b x
     else if n.lit≠0 then some (Zau x (ZlV n.lit) ==decide (0<n.lit)) else some (a ==1)
def Zm4 (f:Nat):Prop:=∀(B:Zas) (s:St) (w:World) (a:Nat) (x:Zak) (r:Bool),Rep B s w→s.tree≠[]→Zc5 f s.nodes a x=some r →
 Calls Tryz.prog 48 #[.pointer (some ⟨B.sb,0,none⟩),.int .i64 a,.agg #[.int .u64 (lo x),.int .u64 (hi x)]] w fun e w'=>e= .returned (.bool r)∧Ext w w'
def Zj7 (s:St)(w:World)(x:Zak)(r:Bool)(bx:Nat)(k a:Nat)(wr:World):Prop :=
 ∃n v,Ext w wr∧s.nodes[a]? =some n∧wr.heap[bx]? =some (.cells #[.int .i64 n.pl,.int .i64 n.lit,v,.int .u64 (lo n.le),.int .u64 (hi n.le)] Za6 (0,0))∧ZcM wr v n.el∧Zc5 k s.nodes a x=some r
theorem Zkw{k:Nat}{ns:List Zaf}{a:Nat}{x:Zak}{r:Bool}{n:Zaf}(h:Zc5 k ns a x=some r)(hn:ns[a]? =some n):∃f,k=f+1 ∧
  ((0≤n.pl∧n.lit=0∧∃b,Ze5 (fun p=>Zc5 f ns p x) n.el=some b∧Zc5 f ns b x=some r)∨(¬ (0≤n.pl∧n.lit=0)∧n.lit≠0∧r=(Zau x (ZlV n.lit) ==decide (0<n.lit)))∨(n.pl<0∧n.lit=0∧r=(a ==1))):=by
 cases k with
 | zero=>cases h
 | succ f =>
   refine⟨f,rfl,?_⟩;unfold Zc5 at h;rw[hn]at h;simp only at h
   split at h
   ·rename_i hc
    split at h
    ·cases h
    ·rename_i b hb
     exact .inl ⟨hc.1,hc.2,b,hb,h⟩
   ·rename_i hc
    split at h
    ·rename_i hl
     exact .inr (.inl ⟨hc,hl,by simpa using h.symm⟩)
    ·rename_i hl
     have hl:n.lit=0:=by omega
     exact .inr (.inr ⟨by omega,hl,by simpa using h.symm⟩)
theorem Zln{g:Nat→Option Bool}{p:Nat × Nat}{r:List (Nat × Nat)}{b:Nat}(h:Ze5 g (p :: r)=some b):(g p.1=some true∧b=p.2)∨(g p.1=some false∧Ze5 g r=some b):=by
 unfold Ze5 at h
 split at h
 ·cases h
 ·rename_i h1
  exact .inl ⟨h1,by simpa using h.symm⟩
 ·rename_i h1
  exact .inr ⟨h1,h⟩
theorem ZcM.lens{w:World}{v:Value}{l:List (Nat × Nat)}(h:ZcM w v l):∃ba c,v= .slice ba l.length c∧∀k (hk:k<l.length),∃b o,ba=some ⟨b,o,none⟩∧w.cell? ⟨b,o+k*2,none⟩=some (.int .i64 (l[k].1:Nat))∧w.cell? ⟨b,o+k*2+1,none⟩=some (.int .i64 (l[k].2:Nat)):=by
 obtain⟨ba,c,rfl,h⟩:=h;refine⟨ba,c,rfl,fun k hk=>?_⟩;rcases h with ⟨_,e,_⟩|⟨b,o,e,hr⟩
 ·rw[e]at hk;simp at hk
 ·exact⟨b,o,e,hr.off0 k hk⟩
theorem Zme(F:Nat)(ih:∀f,f<F→Zm4 f):Zm4 F:=by
 intro B s w a x r h ht he
 obtain⟨n,hn⟩:∃n,s.nodes[a]? =some n:=by
  cases F with
  | zero=>cases he
  | succ f =>
    unfold Zc5 at he
    split at he
    ·cases he
    ·rename_i n hn
     exact⟨n,hn⟩
 have nG:a<s.nodes.length:=(Zpj hn).1;have dJ:Zfx s.nodes.length [(a:Int)]=0:=by simp[Zfx,nG]
 have aC:=((Ext.refl w).alloc (.cells #[.int .u64 (lo x),.int .u64 (hi x)] 41)).alloc (.cells #[.int .i64 a] 3);obtain⟨bB,ak⟩:=Zil w (.cells #[.int .u64 (lo x),.int .u64 (hi x)] 41) (.cells #[.int .i64 a] 3);replace dJ:=Zpe dJ;replace he:=Zpe he
 go_enter Tryz.func48,Tryz.ntmps48
 go_wp2_with fail;generalize (w.alloc (.cells #[.int .u64 (lo x),.int .u64 (hi x)] 41)).alloc (.cells #[.int .i64 a] 3)=w1 at *;have aU:=h.below aC.below;have hq:=ZcL aU ht (Zfe ak) (by simp);rw[dJ.out]at hq;refine hq.mono ?_;rintro e w2 ⟨rfl,rfl⟩;clear hq;obtain⟨cap,_,_,cn,_,_,_⟩:=aU.cells;obtain⟨v,hv,iI,n0,n1,n2,n3,n4⟩:=aU.node hn;have vE:(0:Int)≤a:=by omega
 have vF:(a:Int)<s.nodes.length:=by omega
 obtain⟨p9,ao⟩:=Zgn (w:=w1) n.pl n.lit v (lo n.le) (hi n.le);unfold Za6 at p9 ao;obtain⟨ba,cp,rfl,ap⟩:=id hv;have bW:w.heap.size<w1.heap.size:=(Zpi bB).1;have aQ:Hid (Zj7 s w1 x r w1.heap.size F a (w1.alloc (.cells #[.int .i64 n.pl,.int .i64 n.lit,.slice ba n.el.length cp,.int .u64 (lo n.le),.int .u64 (hi n.le)] 158))):=Zpe ⟨n,_,p9,hn,ao,hv.ext p9,he.out⟩;replace aU:=Zpe aU;replace bB:=Zpe bB;clear hv ap iI ao ak hn he dJ;go_wp2_with fail;clear n0 n1 n2 n3 n4 cn;generalize w1.alloc (.cells #[.int .i64 n.pl,.int .i64 n.lit,.slice ba n.el.length cp,.int .u64 (lo n.le),.int .u64 (hi n.le)] 158)=w3 at *;clear p9
 go_loopg [1] F (fun k a wr=>∃a':Nat,a= .int .i64 a'∧k≤F∧Hid (Zj7 s w1 x r w1.heap.size k a' wr))
 case atStart=>exact⟨a,rfl,ZpD _,aQ⟩
 case round =>
  clear aQ;obtain⟨a',rfl,fA,hI⟩:=hrel;obtain⟨n',v',ax,bt,ao,fo,il⟩:=hI.out;clear hI;have gJ:=h.small.2 n' (List.mem_of_getElem? bt);obtain⟨cM,bT,eD,fY,qU,_⟩:=gJ;obtain⟨c0,c1,c2,c3,c4,cf⟩:=Zbb ao;have cf0:=cf 0;have cf1:=cf 1;have cf2:=cf 2;have uw:=cf 3;have ux:=cf 4;have pd:=(ax.below.block _ (Zpi bB.out).1).trans bB.out;obtain⟨x0,x1⟩:=Zae pd;clear cf;obtain⟨f,rfl,jM⟩:=Zkw il bt;replace ao:=Zpe ao;replace pd:=Zpe pd;replace il:=Zpe il;obtain⟨lY,kU,rfl,cF⟩:=fo.lens;replace cF:=Zpe cF;rcases jM with ⟨hp,hl,b,hb,am⟩|⟨hp,hl,hr⟩|⟨hp,hl,hr⟩
  ·rw[hl]at c1
   have d0:decide (n'.pl≥0)=true:=Zpv hp;replace hl:=Zpe hl;replace bt:=Zpe bt;obtain⟨wo,rfl⟩:∃wo,wo=wr:=⟨wr,rfl⟩;have gw:Hid (Ext wo wo∧Ze5 (fun p=>Zc5 f s.nodes p x) (n'.el.drop 0)=some b):=Zpe ⟨Ext.refl wo,hb⟩;replace hb:=Zpe hb;replace am:=Zpe am;go_wp2_with fail
   go_loopw [33] (fun i wi=>∃j:Nat,j≤n'.el.length∧i= .int .i64 j∧Hid (Ext wo wi∧Ze5 (fun p=>Zc5 f s.nodes p x) (n'.el.drop j)=some b)) (fun i _=>n'.el.length - (intOf i).toNat)
   case atStart=>exact⟨0,Nat.zero_le _,rfl,gw⟩
   case round =>
    clear gw;obtain⟨j,hj,rfl,hI⟩:=hrel;obtain⟨tT,jk⟩:=hI.out;clear hI
    by_cases hjt:j<n'.el.length
    ·rw[List.drop_eq_getElem_cons hjt]at jk
     obtain⟨vb,vo,rfl,e0,e1⟩:=cF.out j hjt;have uV:=Zln jk;generalize n'.el[j]=p at *;obtain⟨p1,p2⟩:=p;simp only at e0 e1 uV;have ah:Ext wr (wr.alloc (.cells #[.int .i64 (p1:Int),.int .i64 (p2:Int)] 165)):=(Ext.refl wr).alloc _;have dF:=Zpm wr (.cells #[.int .i64 (p1:Int),.int .i64 (p2:Int)] 165);have e0:=tT.cell e0;have e1:=tT.cell e1;have lT:=tT.trans ah;have y0:=lT.cell x0;have y1:=lT.cell x1;obtain⟨p0,pv⟩:=Zae dF;clear jk;replace dF:=Zpe dF;rcases uV with ⟨hg,rfl⟩|⟨hg,jk⟩
     ·have be:=ih f (by omega) B s _ p1 x true (aU.out.below (ax.trans lT).below) ht hg
      replace hg:=Zpe hg
      obtain⟨n2,dW⟩:∃n2,s.nodes[b]? =some n2:=by
       have:=am.out
       cases f with
       | zero=>cases this
       | succ f =>
         unfold Zc5 at this
         split at this
         ·cases this
         ·rename_i n2 dW
          exact⟨n2,dW⟩
      have r8:b<s.nodes.length:=(Zpj dW).1;have gb0:(0:Int)≤b:=by omega
      have gb1:(b:Int)<s.nodes.length:=by omega
      clear c0 c1 c2 c3 c4 cf0 cf1 cf2 uw ux;go_wp2_with fail;generalize wr.alloc (.cells #[.int .i64 (p1:Int),.int .i64 (b:Int)] 165)=w4 at *;refine be.mono ?_;rintro e w5 ⟨rfl,eW⟩;have mu:=lT.trans eW;have eP:=aU.out.below (ax.trans mu).below;obtain⟨q0,q1⟩:=Zae ((eW.below.block _ (Zpi dF.out).1).trans dF.out);obtain⟨cap5,_,_,cn5,_,_,_⟩:=eP.cells;obtain⟨v5,fK,yK,n0,n1,n2',n3,n4⟩:=eP.node dW;have aj:=(mu.below.block _ (Zpi ao.out).1).trans ao.out;obtain⟨c0,c1,c2,c3,c4,cf⟩:=Zbb aj;have cf0:=cf 0;have cf1:=cf 1;have cf2:=cf 2;have uw:=cf 3;have ux:=cf 4;clear cf p0 pv e0 e1;have jL:=Zag (Zag (Zag (Zag (Zag aj 0 (.int .i64 n2.pl)) 1 (.int .i64 n2.lit)) 2 v5) 3 (.int .u64 (lo n2.le))) 4 (.int .u64 (hi n2.le));have r7:(((((w5.setCell ⟨w1.heap.size,0,none⟩ (.int .i64 n2.pl)).setCell ⟨w1.heap.size,1,none⟩ (.int .i64 n2.lit)).setCell ⟨w1.heap.size,2,none⟩ v5).setCell ⟨w1.heap.size,3,none⟩ (.int .u64 (lo n2.le))).setCell ⟨w1.heap.size,4,none⟩ (.int .u64 (hi n2.le))).heap[w1.heap.size]? =some (.cells #[.int .i64 n2.pl,.int .i64 n2.lit,v5,.int .u64 (lo n2.le),.int .u64 (hi n2.le)] Za6 (0,0)):=jL
      have eX:Ext w1 (((((w5.setCell ⟨w1.heap.size,0,none⟩ (.int .i64 n2.pl)).setCell ⟨w1.heap.size,1,none⟩ (.int .i64 n2.lit)).setCell ⟨w1.heap.size,2,none⟩ v5).setCell ⟨w1.heap.size,3,none⟩ (.int .u64 (lo n2.le))).setCell ⟨w1.heap.size,4,none⟩ (.int .u64 (hi n2.le))) :=
       (((((ax.trans mu).setCell (ZpD _) _).setCell (ZpD _) _).setCell (ZpD _) _).setCell (ZpD _) _).setCell (ZpD _) _
      have gL:ZcM (((((w5.setCell ⟨w1.heap.size,0,none⟩ (.int .i64 n2.pl)).setCell ⟨w1.heap.size,1,none⟩ (.int .i64 n2.lit)).setCell ⟨w1.heap.size,2,none⟩ v5).setCell ⟨w1.heap.size,3,none⟩ (.int .u64 (lo n2.le))).setCell ⟨w1.heap.size,4,none⟩ (.int .u64 (hi n2.le))) v5 n2.el:=fK.same fun k c fz hk=>by
       have aH:k≠w1.heap.size:=fun e=>by
        rw[e,aj]at hk;simp[Za6,ZaO]at hk
       rw[Below.heap_setCell _ _ _ _ aH,Below.heap_setCell _ _ _ _ aH,Below.heap_setCell _ _ _ _ aH,Below.heap_setCell _ _ _ _ aH,Below.heap_setCell _ _ _ _ aH]
      obtain⟨ba5,vA,rfl,_⟩:=id fK
      have aG:Hid (Zj7 s w1 x r w1.heap.size f b (((((w5.setCell ⟨w1.heap.size,0,none⟩ (.int .i64 n2.pl)).setCell ⟨w1.heap.size,1,none⟩ (.int .i64 n2.lit)).setCell ⟨w1.heap.size,2,none⟩ (.slice ba5 n2.el.length vA)).setCell ⟨w1.heap.size,3,none⟩ (.int .u64 (lo n2.le))).setCell ⟨w1.heap.size,4,none⟩ (.int .u64 (hi n2.le)))):=Zpe
       ⟨n2,_,eX,dW,r7,gL,am.out⟩
      clear jL r7 eX gL aj fK yK eP dW mu;go_wp2_with fail
      go_roundg f
      case measure=>omega
      case rel=>exact⟨b,rfl,by omega,aG⟩
     ·have be:=ih f (by omega) B s _ p1 x false (aU.out.below (ax.trans lT).below) ht hg
      replace hg:=Zpe hg;replace jk:=Zpe jk;go_wp2_with fail;generalize wr.alloc (.cells #[.int .i64 (p1:Int),.int .i64 (p2:Int)] 165)=w4 at *;refine be.mono ?_;rintro e w5 ⟨rfl,eW⟩;go_wp2_with fail;go_roundw
      case rel=>exact⟨j+1,by omega,by go_num,Zpe ⟨lT.trans eW,jk.out⟩⟩
      case measure=>simp[intOf];omega
    ·obtain rfl:j=n'.el.length:=by omega
     simp[Ze5]at jk
  ·rw[Decidable.not_and_iff_or_not]at hp
   have fJ:((n'.lit:Int) !=0)=true:=by simpa using hl
   have dT:((n'.lit:Int) ==0)=false:=by simpa using hl
   have gH:IntKind.i64.wrap (-n'.lit)= -n'.lit:=IntWalk.i64_in _ (by omega);replace hr:=Zpe hr;replace bt:=Zpe bt;have F1:∀w':World,Ext wr w'→w'.cell? ⟨w1.heap.size,1,none⟩=some (.int .i64 n'.lit)∧w'.cell? ⟨w.heap.size,0,none⟩=some (.int .u64 (lo x))∧w'.cell? ⟨w.heap.size,1,none⟩=some (.int .u64 (hi x)):=fun w' dL=>⟨dL.cell c1,dL.cell x0,dL.cell x1⟩
   replace F1:=Zpe F1;have mT:=fun w'=>ZdM x (ZlV n'.lit) w' (by unfold ZlV;split <;> omega) (by unfold ZlV;split <;> omega)
   have tH:(0<n'.lit∧ZlV n'.lit=n'.lit∧decide (n'.lit > 0)=true∧max n'.lit (-n'.lit)=n'.lit)∨(¬ 0<n'.lit∧ZlV n'.lit= -n'.lit∧decide (n'.lit > 0)=false∧max n'.lit (-n'.lit)= -n'.lit):=by
    by_cases ef:0<n'.lit
    ·exact .inl ⟨ef,if_pos ef,Zpv ef,by omega⟩
    ·exact .inr ⟨ef,if_neg ef,Zpu ef,by omega⟩
   unfold ZaT at mT;rcases tH with ⟨ef,ha,fg,xV⟩|⟨ef,ha,fg,xV⟩
   all_goals
    have fX:Hid (r=(Zau x (ZlV n'.lit) ==decide (n'.lit > 0))):=Zpe hr.out;rw[ha]at mT fX;replace ha:=Zpe ha
    by_cases bv:0≤n'.pl
    ·have d0:decide (n'.pl≥0)=true:=Zpv bv
     go_wp2_with fail
     (refine Zah (by kernel_rfl) (by kernel_rfl) ?_
      repeat (refine wpQuiet_step (fun K hK=>?_)
              go_simp
              first
               | (refine hK _ ?_;clear hK K)
               | (replace hK:=Zpe hK
                  apply Exists.intro
                  refine⟨fun wq hq=>?_,hK.out _ ?_⟩
                  ·(obtain⟨f1,f2,f3⟩:=F1.out wq hq)
                   go_simp
                   first
                    | done
                    | rfl
                    | exact⟨rfl,rfl⟩
                    | (refine(mT _).mono ?_;rintro e w' ⟨rfl,hb⟩;exact⟨rfl,hq.trans hb⟩)
                  clear hK K))
      refine wpQuiet_nil ?_)
     intro w5 lQ;go_wp2_with fail;go_ret;exact⟨by rw[fX.out,fg];first|rfl|(simp;done)|(simp;rfl),(aC.trans ax).trans lQ⟩
    ·have d0:decide (n'.pl≥0)=false:=Zpu bv
     go_wp2_with fail
     (refine Zah (by kernel_rfl) (by kernel_rfl) ?_
      repeat (refine wpQuiet_step (fun K hK=>?_)
              go_simp
              first
               | (refine hK _ ?_;clear hK K)
               | (replace hK:=Zpe hK
                  apply Exists.intro
                  refine⟨fun wq hq=>?_,hK.out _ ?_⟩
                  ·(obtain⟨f1,f2,f3⟩:=F1.out wq hq)
                   go_simp
                   first
                    | done
                    | rfl
                    | exact⟨rfl,rfl⟩
                    | (refine(mT _).mono ?_;rintro e w' ⟨rfl,hb⟩;exact⟨rfl,hq.trans hb⟩)
                  clear hK K))
      refine wpQuiet_nil ?_)
     intro w5 lQ;go_wp2_with fail;go_ret;exact⟨by rw[fX.out,fg];first|rfl|(simp;done)|(simp;rfl),(aC.trans ax).trans lQ⟩
  ·have d0:decide (n'.pl≥0)=false:=Zpu (by omega)
   have fJ:((n'.lit:Int) !=0)=false:=by simp[hl]
   replace hr:=Zpe hr;replace hl:=Zpe hl;replace bt:=Zpe bt;clear hp;go_wp2_with fail;go_ret;exact⟨by rw[hr.out,show ((a' ==1)=((a':Int) ==1)) from by rw[Bool.eq_iff_iff];simp;omega] <;> rfl,aC.trans ax⟩
end Go.Proofs.YtmnjakejhbpkoaaGreatDoor
namespace Go.Proofs.YtmnjakejhbpkoaaGreatDoor
open Go Go.RowKit Go.Shelf
theorem Zkv(F:Nat):Zm4 F:=by
 induction F using Nat.strongRecOn with
 | ind F ih=>exact Zme F ih
end Go.Proofs.YtmnjakejhbpkoaaGreatDoor
