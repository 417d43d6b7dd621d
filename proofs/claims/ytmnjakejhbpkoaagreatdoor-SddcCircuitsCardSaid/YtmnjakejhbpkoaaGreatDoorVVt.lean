import Derived.Test.YtmnjakejhbpkoaaGreatDoorVNot
import Derived.Deep.OwnRows
set_option linter.unusedSimpArgs false
set_option linter.unusedVariables false
set_option maxRecDepth 100000
set_option maxHeartbeats 4000000
namespace Go.Proofs.YtmnjakejhbpkoaaGreatDoor
open Go Go.RowKit Go.Shelf
theorem Zpd(a1 a2 a3 b1 b2 b3:Int)(w:World):(Op.equal 106 (.agg #[.int .i64 a1,.int .i64 a2,.int .i64 a3]) (.agg #[.int .i64 b1,.int .i64 b2,.int .i64 b3])).run Tryz.prog w= .ok (decide (a1=b1) && decide (a2=b2) && decide (a3=b3)) w:=by
 unfold Op.equal Op.maxDepth;rw[run_equalIn_agg w _ _ _ _ (by kernel_rfl) (by kernel_rfl)];simp only[Program.fieldsOf,Tryz.underlying106,List.toArray,Op.eqFields];simp[go_sem,Op.eqFields,Tryz.underlying3]
 by_cases h1:a1=b1 <;> by_cases h2:a2=b2 <;> by_cases h3:a3=b3 <;> simp[h1,h2,h3]
theorem ZdR(v:Int)(w:World):Calls Tryz.prog 190 #[.int .i64 v] w fun e w'=>e= .returned (.agg #[.int .i64 (-1),.int .i64 (-1),.int .i64 v])∧Ext w w':=by
 go_enter Tryz.func190,Tryz.ntmps190
 go_wp2_with fail
 go_returns
 exact⟨rfl,⟨by go_grown,ZpD _⟩⟩
def Zaj (x:VN):Bool:=decide (x.left= -1) && decide (x.right= -1) && (decide (1≤x.var) && decide (x.var≤128))
theorem Zl6{w:World}{k:Nat}{x y z:Value}{t:TypeId}(h:w.heap[k]? =some (.cells #[x,y,z] t (0,0))):w.cell? ⟨k,0,none⟩=some x∧w.cell? ⟨k,1,none⟩=some y∧w.cell? ⟨k,2,none⟩=some z:=by
 refine⟨?_,?_,?_⟩ <;> simp[World.cell?,h]
theorem ZdN(x:VN)(w:World):Calls Tryz.prog 163 #[.agg #[.int .i64 x.left,.int .i64 x.right,.int .i64 x.var]] w fun e w'=>e= .returned (.bool (Zaj x))∧Ext w w':=by
 obtain⟨l,r,v⟩:=x
 show Calls Tryz.prog 163 #[.agg #[.int .i64 l,.int .i64 r,.int .i64 v]] w fun e w'=>e= .returned (.bool (Zaj ⟨l,r,v⟩))∧Ext w w'
 have aK:=Zpm w (.cells #[.int .i64 l,.int .i64 r,.int .i64 v] 106);have aV:Ext w (w.alloc (.cells #[.int .i64 l,.int .i64 r,.int .i64 v] 106)):=(Ext.refl w).alloc _;have hl:=Zpe (show Zaj ⟨l,r,v⟩=(decide (l= -1) && decide (r= -1) && (decide (1≤v) && decide (v≤128))) from rfl)
 have kq:∀w',(Op.equalIn 10000 106 (.agg #[.int .i64 l,.int .i64 r,.int .i64 v]) (.agg #[.int .i64 (-1),.int .i64 (-1),.int .i64 v])).run Tryz.prog w'= .ok (decide (l= -1) && decide (r= -1)) w':=fun w'=>by
  have h2:(Op.equalIn 10000 106 (.agg #[.int .i64 l,.int .i64 r,.int .i64 v]) (.agg #[.int .i64 (-1),.int .i64 (-1),.int .i64 v])).run Tryz.prog w'= .ok (decide (l= -1) && decide (r= -1) && decide (v=v)) w':=Zpd l r v (-1) (-1) v w';rw[h2];simp
 have fin:∀(b:Bool),b=Zaj ⟨l,r,v⟩→Zaj ⟨l,r,v⟩=b:=fun b h=>h.symm
 replace fin:=Zpe fin
 by_cases h1:1≤v
 ·by_cases h2:v≤128
  ·go_enter Tryz.func163,Tryz.ntmps163
   go_wp2_with fail;generalize w.alloc (.cells #[.int .i64 l,.int .i64 r,.int .i64 v] 106)=w1 at *;obtain⟨b0,b1,b2⟩:=Zl6 aK;have F1:∀w':World,Ext w1 w'→w'.cell? ⟨w.heap.size,0,none⟩=some (.int .i64 l)∧w'.cell? ⟨w.heap.size,1,none⟩=some (.int .i64 r)∧w'.cell? ⟨w.heap.size,2,none⟩=some (.int .i64 v):=fun w' h=>⟨h.cell b0,h.cell b1,h.cell b2⟩
   replace F1:=Zpe F1
   (refine Zah (by kernel_rfl) (by kernel_rfl) ?_
    repeat (refine wpQuiet_step (fun K hK=>?_)
            go_simp
            first
             | (refine hK _ ?_;clear hK K)
             | (replace hK:=Zpe hK
                apply Exists.intro
                refine⟨fun wq hq=>?_,hK.out _ ?_⟩
                ·(obtain⟨f1,f2,f3⟩:=F1.out wq hq)
                 go_simp
                 first
                  | done
                  | rfl
                  | exact⟨rfl,rfl⟩
                  | (refine(ZdR _ _).mono ?_;rintro e w' ⟨rfl,hb⟩;exact⟨rfl,hq.trans hb⟩)
                clear hK K))
    refine wpQuiet_nil ?_)
   intro w2 cA;go_wp2_with fail;go_ret;exact⟨by rw[hl.out];simp[h1,h2],aV.trans cA⟩
  ·have d2:decide (v≤128)=false:=Zpu h2
   go_enter Tryz.func163,Tryz.ntmps163
   go_wp2_with fail;generalize w.alloc (.cells #[.int .i64 l,.int .i64 r,.int .i64 v] 106)=w1 at *;obtain⟨b0,b1,b2⟩:=Zl6 aK;have F1:∀w':World,Ext w1 w'→w'.cell? ⟨w.heap.size,0,none⟩=some (.int .i64 l)∧w'.cell? ⟨w.heap.size,1,none⟩=some (.int .i64 r)∧w'.cell? ⟨w.heap.size,2,none⟩=some (.int .i64 v):=fun w' h=>⟨h.cell b0,h.cell b1,h.cell b2⟩
   replace F1:=Zpe F1
   (refine Zah (by kernel_rfl) (by kernel_rfl) ?_
    repeat (refine wpQuiet_step (fun K hK=>?_)
            go_simp
            first
             | (refine hK _ ?_;clear hK K)
             | (replace hK:=Zpe hK
                apply Exists.intro
                refine⟨fun wq hq=>?_,hK.out _ ?_⟩
                ·(obtain⟨f1,f2,f3⟩:=F1.out wq hq)
                 go_simp
                 first
                  | done
                  | rfl
                  | exact⟨rfl,rfl⟩
                  | (refine(ZdR _ _).mono ?_;rintro e w' ⟨rfl,hb⟩;exact⟨rfl,hq.trans hb⟩)
                clear hK K))
    refine wpQuiet_nil ?_)
   intro w2 cA;go_wp2_with fail;go_ret;exact⟨by rw[hl.out];simp[h1,h2],aV.trans cA⟩
 ·have d1:decide (1≤v)=false:=Zpu h1
  go_enter Tryz.func163,Tryz.ntmps163
  go_wp2_with fail;generalize w.alloc (.cells #[.int .i64 l,.int .i64 r,.int .i64 v] 106)=w1 at *;obtain⟨b0,b1,b2⟩:=Zl6 aK;have F1:∀w':World,Ext w1 w'→w'.cell? ⟨w.heap.size,0,none⟩=some (.int .i64 l)∧w'.cell? ⟨w.heap.size,1,none⟩=some (.int .i64 r)∧w'.cell? ⟨w.heap.size,2,none⟩=some (.int .i64 v):=fun w' h=>⟨h.cell b0,h.cell b1,h.cell b2⟩
  replace F1:=Zpe F1
  (refine Zah (by kernel_rfl) (by kernel_rfl) ?_
   repeat (refine wpQuiet_step (fun K hK=>?_)
           go_simp
           first
            | (refine hK _ ?_;clear hK K)
            | (replace hK:=Zpe hK
               apply Exists.intro
               refine⟨fun wq hq=>?_,hK.out _ ?_⟩
               ·(obtain⟨f1,f2,f3⟩:=F1.out wq hq)
                go_simp
                first
                 | done
                 | rfl
                 | exact⟨rfl,rfl⟩
                 | (refine(ZdR _ _).mono ?_;rintro e w' ⟨rfl,hb⟩;exact⟨rfl,hq.trans hb⟩)
               clear hK K))
   refine wpQuiet_nil ?_)
  intro w2 cA;go_wp2_with fail;go_ret;exact⟨by rw[hl.out];simp[h1];first|done|(intros;omega),aV.trans cA⟩
end Go.Proofs.YtmnjakejhbpkoaaGreatDoor
namespace Go.Proofs.YtmnjakejhbpkoaaGreatDoor
open Go Go.RowKit Go.Shelf
def Zbs (f:Nat→Bool)(i:Nat):Nat→Bool:=fun j=>if j=i then true else f j
def ZfH (i:Nat)(k:Int)(c:Nat→Bool):Option (Nat→Bool):=if k<0∨(i:Int)≤k∨c k.toNat=true then none else some (Zbs c k.toNat)
def Zcl (i:Nat)(x:VN)(sc:(Nat→Bool) × (Nat→Bool)):Option ((Nat→Bool) × (Nat→Bool)) :=
 if Zaj x=true then (if sc.1 x.var.toNat=true then none else some (Zbs sc.1 x.var.toNat,sc.2))
 else if x.var≠0 then none
 else match ZfH i x.left sc.2 with
  | none=>none
  | some c=>match ZfH i x.right c with
    | none=>none
    | some c'=>some (sc.1,c')
def Zcs:List VN→Nat→((Nat→Bool) × (Nat→Bool))→Option ((Nat→Bool) × (Nat→Bool))
 | [],_,sc=>some sc
 | x :: r,i,sc=>match Zcl i x sc with
   | none=>none
   | some sc'=>Zcs r (i+1) sc'
def Zn1 (n:Nat):Option ((Nat→Bool) × (Nat→Bool))→Int
 | none=>1
 | some sc=>if (List.range (n - 1)).all sc.2=true then 0 else 1
def Zad (t:List VN):Int:=if t.length=0∨255<t.length then 1 else Zn1 t.length (Zcs t 0 (fun _=>false,fun _=>false))
def Zan (w:World)(b:Nat)(t:TypeId)(n:Nat)(f:Nat→Bool):Prop:=∃c,w.heap[b]? =some (.cells c t (0,0))∧c.size=n∧∀j,j<n→c[j]? =some (.bool (f j))
theorem Zan.cell{w:World}{b:Nat}{t:TypeId}{n:Nat}{f:Nat→Bool}(h:Zan w b t n f){j:Nat}(hj:j<n):w.cell? ⟨b,j,none⟩=some (.bool (f j))∧w.frozen? ⟨b,j,none⟩=false:=by
 obtain⟨c,h1,h2,h3⟩:=h;simp[World.cell?,World.frozen?,h1,h3 j hj]
theorem Zan.same{w w':World}{b:Nat}{t:TypeId}{n:Nat}{f:Nat→Bool}(h:Zan w b t n f)(hs:w'.heap[b]? =w.heap[b]?):Zan w' b t n f:=by
 obtain⟨c,h1,h2,h3⟩:=h;exact⟨c,hs.trans h1,h2,h3⟩
theorem Zan.lt{w:World}{b:Nat}{t:TypeId}{n:Nat}{f:Nat→Bool}(h:Zan w b t n f):b<w.heap.size:=by
 obtain⟨c,h1,h2,h3⟩:=h;exact(Zpi h1).1
theorem Zan.ext{w w':World}{b:Nat}{t:TypeId}{n:Nat}{f:Nat→Bool}(h:Zan w b t n f)(hs:Ext w w'):Zan w' b t n f:=h.same (hs.below.block b h.lt)
theorem Zan.set{w:World}{b:Nat}{t:TypeId}{n:Nat}{f:Nat→Bool}(h:Zan w b t n f)(i:Nat):Zan (w.setCell ⟨b,i,none⟩ (.bool true)) b t n (Zbs f i):=by
 obtain⟨c,h1,h2,h3⟩:=h;refine⟨_,Zag h1 i _,by simpa using h2,fun j hj=>?_⟩;rw[Array.getElem?_setIfInBounds]
 by_cases cN:i=j
 ·subst cN
  rw[if_pos rfl,if_pos (by omega)];simp[Zbs]
 ·rw[if_neg cN,h3 j hj]
  simp[Zbs,Ne.symm cN]
theorem Zan.other{w:World}{b:Nat}{t:TypeId}{n:Nat}{f:Nat→Bool}(h:Zan w b t n f){b':Nat}(hb:b≠b')(i:Nat)(v:Value):Zan (w.setCell ⟨b',i,none⟩ v) b t n f :=
 h.same (Below.heap_setCell _ _ _ b hb)
def Zam (w:World)(b o:Nat)(t:List VN):Prop:=∀j u,(Zaq t)[j]? =some u→w.cell? ⟨b,o+j,none⟩=some u
theorem Zdy(t:List VN)(k:Nat)(hk:k<t.length):(Zaq t)[k*3]? =some (.int .i64 t[k].left)∧(Zaq t)[k*3+1]? =some (.int .i64 t[k].right)∧(Zaq t)[k*3+2]? =some (.int .i64 t[k].var):=by
 induction t generalizing k with
 | nil=>simp at hk
 | cons x r ih =>
   cases k with
   | zero=>simp[Zaq]
   | succ k =>
     obtain⟨h1,h2,h3⟩:=ih k (by simpa using hk)
     have e:∀m,(Zaq (x :: r))[(k+1)*3+m]? =(Zaq r)[k*3+m]?:=by
      intro m;simp only[Zaq,List.flatMap_cons];rw[List.getElem?_append_right (by simp;omega)]
      congr 1;simp;omega
     have e0:=e 0;simp only[Nat.add_zero]at e0;rw[e0,e 1,e 2];simpa using ⟨h1,h2,h3⟩
theorem Zam.node{w:World}{b o:Nat}{t:List VN}(h:Zam w b o t){k:Nat}(hk:k<t.length):w.cell? ⟨b,o+k*3,none⟩=some (.int .i64 t[k].left)∧w.cell? ⟨b,o+k*3+1,none⟩=some (.int .i64 t[k].right)∧w.cell? ⟨b,o+k*3+2,none⟩=some (.int .i64 t[k].var):=by
 obtain⟨h1,h2,h3⟩:=Zdy t k hk;exact⟨h _ _ h1,by have:=h _ _ h2;rwa [←Nat.add_assoc]at this,by have:=h _ _ h3;rwa [←Nat.add_assoc]at this⟩
theorem Zam.ext{w w':World}{b o:Nat}{t:List VN}(h:Zam w b o t)(hs:Ext w w'):Zam w' b o t:=fun j u hj=>hs.cell (h j u hj)
theorem ZeT:(Tryz.prog.info? 4).map (fun i=>(i.zero,i.size,i.bytes))=some (some (.bool false),1,1):=by kernel_rfl
theorem Zkn{t:List VN}(w:World)(ba:Option Addr)(cap:Nat)(h:t.length=0∨255<t.length) :
  Calls Tryz.prog 149 #[.slice ba t.length cap] w fun e w'=>e= .returned (.int .i64 1)∧Ext w w':=by
 by_cases h0:t.length=0
 ·rw[h0]
  go_enter Tryz.func149,Tryz.ntmps149
  go_wp2_with fail;go_ret;exact⟨rfl,Ext.refl w⟩
 ·have h1:((t.length:Int) ==0)=false:=by simp;intro e;exact h0 (by simp[e])
  have h2:decide ((255:Int)<t.length)=true:=by simp;omega
  have h3:(255:Int)<t.length:=by omega
  go_enter Tryz.func149,Tryz.ntmps149
  go_wp2_with fail;go_ret;exact⟨rfl,Ext.refl w⟩
theorem Zi9:Tryz.zeroCells195=Array.replicate 129 (.bool false):=by kernel_rfl
theorem Zcb(w:World)(c:Array Value)(t:TypeId)(n:Nat)(hc:c=Array.replicate n (.bool false))(ad:Nat)(ha:ad=w.heap.size):Zan (w.alloc (.cells c t)) ad t n (fun _=>false):=by
 subst hc;refine⟨_,Zal w _ ad ha,by simp,fun j hj=>by simp[hj]⟩
theorem Ze0(n:Nat):madeCells #[.bool false] n=Array.replicate n (.bool false):=by
 apply Array.ext_getElem?
 intro j;simp only[madeCells,Array.getElem?_map]
 by_cases hj:j<n
 ·simp[hj,Nat.mod_one]
 ·simp[hj]
def Zj6 (w:World)(bs bc:Nat)(t:List VN)(R:Option ((Nat→Bool) × (Nat→Bool)))(k:Nat)(wr:World):Prop :=
 ∃sc:(Nat→Bool) × (Nat→Bool),Ext w wr∧Zan wr bs 195 129 sc.1∧Zan wr bc 4 t.length sc.2∧Zcs (t.drop k) k sc=R
def Zgi (i:Nat):List Int→(Nat→Bool)→Option (Nat→Bool)
 | [],c=>some c
 | k :: r,c=>match ZfH i k c with
   | none=>none
   | some c'=>Zgi i r c'
def Znn (r:List VN)(k:Nat)(seen:Nat→Bool):Option (Nat→Bool)→Option ((Nat→Bool) × (Nat→Bool))
 | none=>none
 | some c=>Zcs r k (seen,c)
def Zj5 (w:World)(bs bc:Nat)(n:Nat)(seen:Nat→Bool)(i:Nat)(l r:Int)(S:Option (Nat→Bool))(m:Nat)(wr:World):Prop :=
 ∃c:Nat→Bool,Ext w wr∧Zan wr bs 195 129 seen∧Zan wr bc 4 n c∧Zgi i ([l,r].drop m) c=S
theorem Zko{t:List VN}(w:World)(b o cap:Nat)(h:Zam w b o t)(dT:0<t.length)(fJ:t.length≤255) :
  Calls Tryz.prog 149 #[.slice (some ⟨b,o,none⟩) t.length cap] w fun e w'=>e= .returned (.int .i64 (Zad t))∧Ext w w':=by
 have dD:∀w:World,(Instr.makeSlice 46 (.int .i64 t.length) (.int .i64 t.length)).run Tryz.prog w= .ok (.slice (some ⟨w.heap.size,0,none⟩) t.length t.length) (w.alloc (.cells (madeCells #[.bool false] t.length) 4)) :=
  fun w=>run_make_row' (P:=Tryz.prog) 46 4 (.bool false) 1 Tryz.underlying46 ZeT rfl .i64 .i64 t.length (by omega) (by omega) w
 have h1:((t.length:Int) ==0)=false:=by simp;intro e;simp[e]at dT
 have h2:decide ((255:Int)<t.length)=false:=Zpu (by omega);have h3:¬ (255:Int)<t.length:=by omega
 obtain⟨R,hR⟩:∃R,Zcs t 0 (fun _=>false,fun _=>false)=R:=⟨_,rfl⟩
 have gj:Hid (Zad t=Zn1 t.length R):=Zpe (by
   unfold Zad;rw[if_neg (by omega),hR])
 go_enter Tryz.func149,Tryz.ntmps149
 go_wp2_with fail;have eI:=(Zcb w _ 195 129 Zi9 w.heap.size rfl).ext (((Ext.refl _).alloc (.cells (madeCells #[.bool false] t.length) 4)));have fQ:=Zcb (w.alloc (.cells Tryz.zeroCells195 195)) _ 4 t.length (Ze0 _) (w.heap.size+1) (by simp);have aV:Ext w ((w.alloc (.cells Tryz.zeroCells195 195)).alloc (.cells (madeCells #[.bool false] t.length) 4)):=((Ext.refl w).alloc _).alloc _;have aQ:Hid (Zj6 w w.heap.size (w.heap.size+1) t R 0 ((w.alloc (.cells Tryz.zeroCells195 195)).alloc (.cells (madeCells #[.bool false] t.length) 4))):=Zpe ⟨_,aV,eI,fQ,hR⟩;clear eI fQ hR;generalize (w.alloc (.cells Tryz.zeroCells195 195)).alloc (.cells (madeCells #[.bool false] t.length) 4)=w0 at *
 go_loopw [24] (fun i wr=>∃k:Nat,k≤t.length∧i= .int .i64 k∧Hid (Zj6 w w.heap.size (w.heap.size+1) t R k wr))
  (fun i _=>t.length - (intOf i).toNat)
 case atStart=>exact⟨0,Nat.zero_le _,rfl,aQ⟩
 case round =>
  clear aQ;obtain⟨k,hk,rfl,hI⟩:=hrel;obtain⟨sc,hX,hS,hC,au⟩:=hI.out;clear hI
  by_cases aE:k<t.length
  ·obtain⟨n0,n1,n2⟩:=(h.ext hX).node aE
   rw[List.drop_eq_getElem_cons aE]at au;generalize t[k]=x at *;obtain⟨xl,xr,xv⟩:=x;simp only at n0 n1 n2;have aK:=Zpm wr (.cells #[.int .i64 xl,.int .i64 xr,.int .i64 xv] 106);have aC:Ext wr (wr.alloc (.cells #[.int .i64 xl,.int .i64 xr,.int .i64 xv] 106)):=(Ext.refl wr).alloc _;have nq:=hX.size;replace au:=Zpe au;replace hS:=Zpe hS;replace hC:=Zpe hC;replace aK:=Zpe aK;replace aC:=Zpe aC;go_wp2_with fail;generalize wr.alloc (.cells #[.int .i64 xl,.int .i64 xr,.int .i64 xv] 106)=w1 at *;obtain⟨b0,b1,b2⟩:=Zl6 aK.out
   try go_wp2_with fail
   refine(ZdN ⟨xl,xr,xv⟩ w1).mono ?_;rintro e w2 ⟨rfl,aF⟩;have dv:=aC.out.trans aF;have c0:=aF.cell b0;have c1:=aF.cell b1;have c2:=aF.cell b2;have aZ:=Zpe (hS.out.ext dv);have cv:=Zpe (hC.out.ext dv);have fw:=Zpe (hX.trans dv);clear b0 b1 b2 n0 n1 n2;unfold Zcs Zcl at au
   cases aI:Zaj ⟨xl,xr,xv⟩
   ·rw[aI]at au
    by_cases gV:xv=0
    ·subst gV
     obtain⟨S,mH⟩:∃S,Zgi k [xl,xr] sc.2=S:=⟨_,rfl⟩
     have cm:Hid (Znn (t.drop (k+1)) (k+1) sc.1 S=R):=Zpe (by
       rw[←au.out,←mH];simp only[Zgi]
       cases ZfH k xl sc.2 with
       | none=>simp[Znn]
       | some c=>cases hkc:ZfH k xr c <;> simp[Znn,hkc])
     have gw:Hid (Zj5 w w.heap.size (w.heap.size+1) t.length sc.1 k xl xr S 0 w2):=Zpe ⟨sc.2,fw.out,aZ.out,cv.out,mH⟩;clear mH au hS hC aK aC aF dv;have ix0:∀w,(Instr.index 64 (.agg #[.int .i64 xl,.int .i64 xr]) (.int .i64 0)).run Tryz.prog w= .ok (.int .i64 xl) w:=fun _=>by kernel_rfl
     have ix1:∀w,(Instr.index 64 (.agg #[.int .i64 xl,.int .i64 xr]) (.int .i64 1)).run Tryz.prog w= .ok (.int .i64 xr) w:=fun _=>by kernel_rfl
     go_wp2_with fail
     go_loopw [46] (fun i wi=>∃m:Nat,m≤2∧i= .int .i64 m∧Hid (Zj5 w w.heap.size (w.heap.size+1) t.length sc.1 k xl xr S m wi))
      (fun i _=>2 - (intOf i).toNat)
     case atStart=>exact⟨0,by omega,rfl,gw⟩
     case round =>
      clear gw fw aZ cv;obtain⟨m,hm,rfl,hJ⟩:=hrel;obtain⟨ci,mL,mI,kW,cy⟩:=hJ.out;clear hJ;obtain rfl|rfl|rfl:m=0∨m=1∨m=2:=by omega
      ·-- 0
       simp only[List.drop_zero,Zgi,ZfH]at cy
       by_cases gH:xl<0
       ·rw[if_pos (.inl gH)]at cy
        go_wp2_with fail;go_ret;refine⟨?_,mL⟩;rw[gj.out,←cm.out,←cy];rfl
       ·by_cases dC:(k:Int)≤xl
        ·rw[if_pos (.inr (.inl dC))]at cy
         have dn:decide (xl<0)=false:=Zpu gH;have dg:decide ((k:Int)≤xl)=true:=Zpv dC;go_wp2_with fail;go_ret;refine⟨?_,mL⟩;rw[gj.out,←cm.out,←cy];rfl
        ·obtain⟨kn,iy⟩:∃n:Nat,xl=n:=⟨xl.toNat,by omega⟩
         subst iy;obtain⟨s1,s2⟩:=kW.cell (j:=kn) (by omega);have dn:decide ((kn:Int)<0)=false:=Zpu gH;have dg:decide ((k:Int)≤kn)=false:=Zpu dC;have g1:(0:Int)≤kn:=by omega
         have g2:(kn:Int)<t.length:=by omega
         replace kW:=Zpe kW;replace mI:=Zpe mI
         cases fy:ci kn
         ·rw[if_neg (by simp[fy];omega)]at cy
          rw[fy]at s1;replace cy:=Zpe cy;go_wp2_with fail;go_roundw
          case rel=>exact⟨0+1,by omega,by go_num,Zpe ⟨Zbs ci kn,mL.setCell (by simp) _,mI.out.other (by simp) _ _,kW.out.set kn,by simpa [Zgi,ZfH] using cy.out⟩⟩
          case measure=>simp[intOf]
         ·rw[if_pos (by simp[fy])]at cy
          rw[fy]at s1;replace cy:=Zpe cy;go_wp2_with fail;go_ret;refine⟨?_,mL⟩;rw[gj.out,←cm.out,←cy.out];rfl
      ·-- 1
       simp only[List.drop_succ_cons,List.drop_zero,Zgi,ZfH]at cy
       by_cases gH:xr<0
       ·rw[if_pos (.inl gH)]at cy
        go_wp2_with fail;go_ret;refine⟨?_,mL⟩;rw[gj.out,←cm.out,←cy];rfl
       ·by_cases dC:(k:Int)≤xr
        ·rw[if_pos (.inr (.inl dC))]at cy
         have dn:decide (xr<0)=false:=Zpu gH;have dg:decide ((k:Int)≤xr)=true:=Zpv dC;go_wp2_with fail;go_ret;refine⟨?_,mL⟩;rw[gj.out,←cm.out,←cy];rfl
        ·obtain⟨kn,iy⟩:∃n:Nat,xr=n:=⟨xr.toNat,by omega⟩
         subst iy;obtain⟨s1,s2⟩:=kW.cell (j:=kn) (by omega);have dn:decide ((kn:Int)<0)=false:=Zpu gH;have dg:decide ((k:Int)≤kn)=false:=Zpu dC;have g1:(0:Int)≤kn:=by omega
         have g2:(kn:Int)<t.length:=by omega
         replace kW:=Zpe kW;replace mI:=Zpe mI
         cases fy:ci kn
         ·rw[if_neg (by simp[fy];omega)]at cy
          rw[fy]at s1;replace cy:=Zpe cy;go_wp2_with fail;go_roundw
          case rel=>exact⟨1+1,by omega,by go_num,Zpe ⟨Zbs ci kn,mL.setCell (by simp) _,mI.out.other (by simp) _ _,kW.out.set kn,by simpa [Zgi,ZfH] using cy.out⟩⟩
          case measure=>simp[intOf]
         ·rw[if_pos (by simp[fy])]at cy
          rw[fy]at s1;replace cy:=Zpe cy;go_wp2_with fail;go_ret;refine⟨?_,mL⟩;rw[gj.out,←cm.out,←cy.out];rfl
      ·simp only[List.drop_succ_cons,List.drop_zero,List.drop_nil,Zgi]at cy
       replace kW:=Zpe kW;replace mI:=Zpe mI;go_wp2_with fail;go_roundw
       case rel=>exact⟨k+1,by omega,by go_num,Zpe ⟨(sc.1,ci),mL,mI.out,kW.out,by rw[←cm.out,←cy];rfl⟩⟩
       case measure=>simp[intOf];omega
    ·have lx:(xv !=0)=true:=by simpa using gV
     have rN:R=none:=by rw[←au.out];simp[gV]
     go_wp2_with fail;go_ret;refine⟨?_,fw.out⟩;rw[gj.out,rN];rfl
   ·have hv:=aI
    simp only[Zaj,Zpx,ZpA]at hv;obtain⟨_,bI,ap⟩:=hv;obtain⟨vn,rfl⟩:∃n:Nat,xv=n:=⟨xv.toNat,by omega⟩;obtain⟨s1,s2⟩:=aZ.out.cell (j:=vn) (by omega);rw[aI]at au;have g1:(0:Int)≤vn:=by omega
    have g2:(vn:Int)<129:=by omega
    cases jU:sc.1 vn
    ·rw[jU]at s1
     go_wp2_with fail;go_roundw
     case rel=>exact⟨k+1,by omega,by go_num,Zpe ⟨(Zbs sc.1 vn,sc.2),fw.out.setCell (by simp) _,aZ.out.set vn,cv.out.other (by simp) _ _,by have:=au.out;simpa [jU] using this⟩⟩
     case measure=>simp[intOf];omega
    ·rw[jU]at s1
     go_wp2_with fail;go_ret;refine⟨?_,fw.out⟩;have:=au.out;simp[jU]at this;rw[gj.out,←this];rfl
  ·obtain rfl:k=t.length:=by omega
   have oT:R=some sc:=by rw[←au,List.drop_length];rfl
   obtain⟨n',bt⟩:∃n',t.length=n'+1:=⟨t.length - 1,by omega⟩;have bz:IntKind.i64.wrap ((t.length:Int) - 1)=(n':Int):=by rw[bt];rw[IntWalk.i64_in _ (by omega)];omega
   have gG:(n':Int)≤t.length:=by omega
   have cO:(0:Int)≤n':=by omega
   replace hS:=Zpe hS;replace hC:=Zpe hC;replace oT:=Zpe oT;have ac:Hid (Zad t=if (List.range n').all sc.2=true then 0 else 1):=Zpe (by rw[gj.out,oT.out];simp only[Zn1];rw[bt];rfl);clear au;replace bt:=Zpe bt;go_wp2_with fail
   go_loopw [73] (fun i wi=>∃k:Nat,k≤n'∧i= .int .i64 k∧wi=wr∧Hid (∀j,j<k→sc.2 j=true))
    (fun i _=>n' - (intOf i).toNat)
   case atStart=>exact⟨0,Nat.zero_le _,rfl,rfl,Zpe (fun j hj=>absurd hj (Nat.not_lt_zero _))⟩
   case round =>
    obtain⟨k,hk,rfl,rfl,aN⟩:=hrel
    by_cases aE:k<n'
    ·obtain⟨s1,s2⟩:=hC.out.cell (j:=k) (by have:=bt.out;omega)
     have q1:(0:Int)≤k:=by omega
     have q2:(k:Int)<n':=by omega
     cases fy:sc.2 k
     ·rw[fy]at s1
      go_wp2_with fail;go_ret;refine⟨?_,hX⟩
      rw[ac.out,if_neg (by
       intro hc;have:=List.all_eq_true.1 hc k (List.mem_range.2 aE);rw[fy]at this;cases this)]
      rfl
     ·rw[fy]at s1
      go_wp2_with fail;go_roundw
      case rel=>exact⟨k+1,by omega,by go_num,by first|rfl|trivial,Zpe (fun j hj=>by
       by_cases nR:j=k
       ·rw[nR];exact fy
       ·exact aN.out j (by omega))⟩
      case measure=>simp[intOf];omega
    ·obtain rfl:k=n':=by omega
     go_wp2_with fail;go_ret;refine⟨?_,hX⟩;rw[ac.out,if_pos (List.all_eq_true.2 fun j hj=>aN.out j (List.mem_range.1 hj))]
     rfl
theorem ZbZ{t:List VN}(w:World)(ba:Option Addr)(cap:Nat)(h:t=[]∨∃b o,ba=some ⟨b,o,none⟩∧Zam w b o t) :
  Calls Tryz.prog 149 #[.slice ba t.length cap] w fun e w'=>e= .returned (.int .i64 (Zad t))∧Ext w w':=by
 by_cases hc:t.length=0∨255<t.length
 ·have:Zad t=1:=if_pos hc
  rw[this];exact Zkn w ba cap hc
 ·rcases h with rfl|⟨b,o,rfl,ht⟩
  ·simp at hc
  ·exact Zko w b o cap ht (by omega) (by omega)
end Go.Proofs.YtmnjakejhbpkoaaGreatDoor
namespace Go.Proofs.YtmnjakejhbpkoaaGreatDoor
open Go Go.RowKit Go.Shelf
def ZgD (f:Nat→Int)(i:Nat)(v:Int):Nat→Int:=fun j=>if j=i then v else f j
def Zc3 (i:Nat)(x:VN)(f:Nat→Int):Nat→Int:=if Zaj x=true then ZgD f i (-1) else ZgD (ZgD (ZgD f i (-1)) x.left.toNat i) x.right.toNat i
def ZcZ:List VN→Nat→(Nat→Int)→(Nat→Int)
 | [],_,f=>f
 | x :: r,i,f=>ZcZ r (i+1) (Zc3 i x f)
def Zim (t:List VN):Nat→Int:=ZcZ t 0 (fun _=>0)
def Zfp (up:Nat→Int):Nat→Nat→Nat→Nat
 | 0,a,_=>a
 | f+1,a,b=>if a=b then a else if a<b then Zfp up f (up a).toNat b else Zfp up f a (up b).toNat
def ZcG (t:List VN)(a b:Nat):Nat:=Zfp (Zim t) (t.length+t.length) a b
theorem Zb3{i:Nat}{k:Int}{c c':Nat→Bool}(h:ZfH i k c=some c'):0≤k∧k<i∧c k.toNat=false∧c'=Zbs c k.toNat:=by
 unfold ZfH at h
 split at h
 ·cases h
 ·rename_i hn
  simp only[Zpw]at h;refine⟨by omega,by omega,?_,h.symm⟩
  cases hc:c k.toNat
  ·rfl
  ·exact absurd (.inr (.inr hc)) hn
theorem ZcX{i:Nat}{x:VN}{sc sc':(Nat→Bool) × (Nat→Bool)}(h:Zcl i x sc=some sc') :
  (Zaj x=true∧sc'.2=sc.2)∨(Zaj x=false∧x.var=0∧0≤x.left∧x.left<i∧0≤x.right∧x.right<i∧x.left≠x.right∧sc'.2=Zbs (Zbs sc.2 x.left.toNat) x.right.toNat):=by
 unfold Zcl at h
 split at h
 ·rename_i hl
  split at h
  ·cases h
  ·simp only[Zpw]at h;exact .inl ⟨hl,by rw[←h]⟩
 ·rename_i hl
  split at h
  ·cases h
  ·rename_i hv
   split at h
   ·cases h
   ·rename_i c hc
    split at h
    ·cases h
    ·rename_i c' ff
     simp only[Zpw]at h;obtain⟨a1,a2,a3,a4⟩:=Zb3 hc;obtain⟨b1,b2,b3,b4⟩:=Zb3 ff;refine .inr ⟨by simpa using hl,by simpa using hv,a1,a2,b1,b2,fun e=>?_,by rw[←h,b4,a4]⟩;rw[a4,e]at b3;simp[Zbs]at b3
theorem Zb8:∀(t:List VN) (i:Nat) (sc sc':(Nat→Bool) × (Nat→Bool)),Zcs t i sc=some sc' →
  ∀k (hk:k<t.length),Zaj t[k]=false→t[k].var=0∧0≤t[k].left∧t[k].left<(i+k:Nat)∧0≤t[k].right∧t[k].right<(i+k:Nat)∧t[k].left≠t[k].right
 | [],_,_,_,_,k,hk,_=>absurd hk (Nat.not_lt_zero _)
 | x :: r,i,sc,sc',h,k,hk,hl=>by
   unfold Zcs at h
   split at h
   ·cases h
   ·rename_i jX h1
    cases k with
    | zero =>
      rcases ZcX h1 with ⟨h2,_⟩|⟨_,h3,h4,h5,h6,h7,h8,_⟩
      ·simp only[List.getElem_cons_zero]at hl;rw[hl]at h2;cases h2
      ·exact⟨h3,h4,by simpa using h5,h6,by simpa using h7,h8⟩
    | succ k =>
      have:=Zb8 r (i+1) jX sc' h k (by simpa using hk) (by simpa using hl);simp only[List.getElem_cons_succ];rw[show i+(k+1)=i+1+k from by omega];exact this
theorem Zar{t:List VN}(h:Zad t=0):0<t.length∧t.length≤255∧∃sc,Zcs t 0 (fun _=>false,fun _=>false)=some sc∧∀j,j+1<t.length→sc.2 j=true:=by
 unfold Zad at h
 split at h
 ·cases h
 ·rename_i hl
  refine⟨by omega,by omega,?_⟩;unfold Zn1 at h
  split at h
  ·cases h
  ·rename_i sc hs
   refine⟨sc,hs,fun j hj=>?_⟩
   split at h
   ·rename_i ha
    exact List.all_eq_true.1 ha j (List.mem_range.2 (by omega))
   ·cases h
theorem ZmW:∀(t:List VN) (i:Nat) (sc sc':(Nat→Bool) × (Nat→Bool)) (f:Nat→Int),Zcs t i sc=some sc'→(∀j,sc.2 j=true→(j:Int)<f j∧f j<i) →
  ∀j,sc'.2 j=true→(j:Int)<ZcZ t i f j∧ZcZ t i f j<(i+t.length:Nat)
 | [],i,sc,sc',f,h,hi,j,hj=>by
   simp only[Zcs,Zpw]at h;subst h;simpa [ZcZ] using hi j hj
 | x :: r,i,sc,sc',f,h,hi,j,hj=>by
   unfold Zcs at h
   split at h
   ·cases h
   ·rename_i jX h1
    have:=ZmW r (i+1) jX sc' (Zc3 i x f) h (fun k hk=>?_) j hj
    ·simp only[ZcZ,ZpC]
     rw[show i+(r.length+1)=i+1+r.length from by omega];exact this
    ·unfold Zc3
     rcases ZcX h1 with ⟨h2,h3⟩|⟨h2,h3,h4,h5,h6,h7,h8,h9⟩
     ·rw[if_pos h2]
      rw[h3]at hk;have:=hi k hk;have aH:k≠i:=by omega
      simp only[ZgD,if_neg aH];omega
     ·rw[if_neg (by simp[h2])]
      rw[h9]at hk;simp only[ZgD]
      by_cases hr:k=x.right.toNat
      ·rw[if_pos hr];omega
      ·rw[if_neg hr]
       by_cases hl:k=x.left.toNat
       ·rw[if_pos hl];omega
       ·rw[if_neg hl]
        have bX:sc.2 k=true:=by simpa [Zbs,hr,hl] using hk
        have:=hi k bX;rw[if_neg (by omega)];omega
theorem ZlM{t:List VN}(h:Zad t=0){j:Nat}(hj:j+1<t.length):(j:Int)<Zim t j∧Zim t j<t.length:=by
 obtain⟨_,_,sc,hs,hc⟩:=Zar h;have:=ZmW t 0 _ sc (fun _=>0) hs (fun j hj=>by cases hj) j (hc j hj);simpa [Zim] using this
def ZbC (w:World)(b:Nat)(t:TypeId)(n:Nat)(f:Nat→Int):Prop:=∃c,w.heap[b]? =some (.cells c t (0,0))∧c.size=n∧∀j,j<n→∃v,c[j]? =some (.int .i64 v)∧v=f j
theorem ZbC.cell{w:World}{b:Nat}{t:TypeId}{n:Nat}{f:Nat→Int}(h:ZbC w b t n f){j:Nat}(hj:j<n):w.cell? ⟨b,j,none⟩=some (.int .i64 (f j))∧w.frozen? ⟨b,j,none⟩=false:=by
 obtain⟨c,h1,h2,h3⟩:=h;obtain⟨v,h4,rfl⟩:=h3 j hj;simp[World.cell?,World.frozen?,h1,h4]
theorem ZbC.same{w w':World}{b:Nat}{t:TypeId}{n:Nat}{f:Nat→Int}(h:ZbC w b t n f)(hs:w'.heap[b]? =w.heap[b]?):ZbC w' b t n f:=by
 obtain⟨c,h1,h2,h3⟩:=h;exact⟨c,hs.trans h1,h2,h3⟩
theorem ZbC.lt{w:World}{b:Nat}{t:TypeId}{n:Nat}{f:Nat→Int}(h:ZbC w b t n f):b<w.heap.size:=by
 obtain⟨c,h1,h2,h3⟩:=h;exact(Zpi h1).1
theorem ZbC.ext{w w':World}{b:Nat}{t:TypeId}{n:Nat}{f:Nat→Int}(h:ZbC w b t n f)(hs:Ext w w'):ZbC w' b t n f:=h.same (hs.below.block b h.lt)
theorem ZbC.set{w:World}{b:Nat}{t:TypeId}{n:Nat}{f:Nat→Int}(h:ZbC w b t n f)(i:Nat)(v:Int):ZbC (w.setCell ⟨b,i,none⟩ (.int .i64 v)) b t n (ZgD f i v):=by
 obtain⟨c,h1,h2,h3⟩:=h;refine⟨_,Zag h1 i _,by simpa using h2,fun j hj=>?_⟩;rw[Array.getElem?_setIfInBounds]
 by_cases cN:i=j
 ·subst cN
  rw[if_pos rfl,if_pos (by omega)];exact⟨v,rfl,by simp[ZgD]⟩
 ·rw[if_neg cN]
  obtain⟨u,h4,h5⟩:=h3 j hj;exact⟨u,h4,by simp[ZgD,Ne.symm cN,h5]⟩
theorem Zlx(f:Nat→Int)(a b:Nat)(v:Int):ZgD (ZgD f a v) b v=ZgD (ZgD f b v) a v:=by
 funext j
 simp only[ZgD]
 by_cases h1:j=a <;> by_cases h2:j=b <;> simp[h1,h2]
theorem Znw(w:World)(n:Nat)(t:TypeId)(ad:Nat)(ha:ad=w.heap.size):ZbC (w.alloc (.cells (madeCells #[.int .i64 0] n) t)) ad t n (fun _=>0):=by
 refine⟨_,Zal w _ ad ha,by simp[madeCells],fun j hj=>⟨0,?_,rfl⟩⟩;simp[madeCells,hj,Nat.mod_one]
theorem Zgg:(Tryz.prog.info? 3).map (fun i=>(i.zero,i.size,i.bytes))=some (some (.int .i64 0),1,8):=by kernel_rfl
def Zj9 (w:World)(g:Nat)(t:List VN)(k:Nat)(wr:World):Prop:=∃f,Ext w wr∧ZbC wr g 3 t.length f∧ZcZ (t.drop k) k f=Zim t
theorem Zh7{t:List VN}(w:World)(b o cap:Nat)(h:Zam w b o t)(hc:Zad t=0) :
  Calls Tryz.prog 226 #[.slice (some ⟨b,o,none⟩) t.length cap] w fun e w'=>∃g,w.heap.size≤g∧e= .returned (.slice (some ⟨g,0,none⟩) t.length t.length)∧ZbC w' g 3 t.length (Zim t)∧Ext w w':=by
 have dD:∀w:World,(Instr.makeSlice 45 (.int .i64 t.length) (.int .i64 t.length)).run Tryz.prog w= .ok (.slice (some ⟨w.heap.size,0,none⟩) t.length t.length) (w.alloc (.cells (madeCells #[.int .i64 0] t.length) 3)) :=
  fun w=>run_make_row' (P:=Tryz.prog) 45 3 (.int .i64 0) 8 Tryz.underlying45 Zgg rfl .i64 .i64 t.length (by have:=(Zar hc).2.1;omega) (by have:=(Zar hc).2.1;omega) w
 obtain⟨dT,fJ,sc,au,_⟩:=Zar hc;have ja:=Zpe (Zb8 t 0 _ sc au);have hq:=ZbZ w (some ⟨b,o,none⟩) cap (.inr ⟨b,o,rfl,h⟩);rw[hc]at hq;clear au hc
 go_enter Tryz.func226,Tryz.ntmps226
 go_wp2_with fail;refine hq.mono ?_;rintro e w1 ⟨rfl,aC⟩;clear hq;go_wp2_with fail;have aV:Ext w (w1.alloc (.cells (madeCells #[.int .i64 0] t.length) 3)):=aC.alloc _;have aQ:Hid (Zj9 w w1.heap.size t 0 (w1.alloc (.cells (madeCells #[.int .i64 0] t.length) 3))):=Zpe ⟨_,aV,Znw w1 t.length _ _ rfl,rfl⟩;have dC:=aC.size;clear aV aC;generalize w1.alloc (.cells (madeCells #[.int .i64 0] t.length) 3)=w2 at *;generalize w1.heap.size=g at *
 go_loopw [14] (fun i wr=>∃k:Nat,k≤t.length∧i= .int .i64 k∧Hid (Zj9 w g t k wr))
  (fun i _=>t.length - (intOf i).toNat)
 case atStart=>exact⟨0,Nat.zero_le _,rfl,aQ⟩
 case round =>
  clear aQ;obtain⟨k,hk,rfl,hI⟩:=hrel;obtain⟨f,hX,hG,nk⟩:=hI.out;clear hI
  by_cases aE:k<t.length
  ·obtain⟨n0,n1,n2⟩:=(h.ext hX).node aE
   have gR:=ja.out k aE;rw[List.drop_eq_getElem_cons aE]at nk;simp only[ZcZ]at nk;generalize t[k]=x at *;obtain⟨xl,xr,xv⟩:=x;simp only[Nat.zero_add]at n0 n1 n2 gR;have aK:=Zpm wr (.cells #[.int .i64 xl,.int .i64 xr,.int .i64 xv] 106);have aC:Ext wr (wr.alloc (.cells #[.int .i64 xl,.int .i64 xr,.int .i64 xv] 106)):=(Ext.refl wr).alloc _;have nq:=hX.size;have dZ:=hG.lt;obtain⟨s1,s2⟩:=hG.cell aE;replace hG:=Zpe hG;replace aK:=Zpe aK;replace aC:=Zpe aC;replace nk:=Zpe nk;have s1':=aC.out.cell s1;have s2':(wr.alloc (.cells #[.int .i64 xl,.int .i64 xr,.int .i64 xv] 106)).frozen? ⟨g,k,none⟩=false:=(World.frozen?_of_block (a:=⟨g,k,none⟩) (aC.out.below.block _ dZ)).trans s2;go_wp2_with fail;have aF:Ext w ((wr.setCell ⟨g,k,none⟩ (.int .i64 (-1))).alloc (.cells #[.int .i64 xl,.int .i64 xr,.int .i64 xv] 106)):=(hX.setCell (by simpa using dC) _).alloc _;have hG2:=(hG.out.set k (-1)).ext ((Ext.refl _).alloc (.cells #[.int .i64 xl,.int .i64 xr,.int .i64 xv] 106));have aP:((wr.setCell ⟨g,k,none⟩ (.int .i64 (-1))).alloc (.cells #[.int .i64 xl,.int .i64 xr,.int .i64 xv] 106)).heap[wr.heap.size]? =some (.cells #[.int .i64 xl,.int .i64 xr,.int .i64 xv] 106 (0,0)):=Zal _ _ _ (by simp);clear s1 s2 s1' s2' aK aC n0 n1 n2;generalize (wr.setCell ⟨g,k,none⟩ (.int .i64 (-1))).alloc (.cells #[.int .i64 xl,.int .i64 xr,.int .i64 xv] 106)=w3 at *;obtain⟨b0,b1,b2⟩:=Zl6 aP
   try go_wp2_with fail
   refine(ZdN ⟨xl,xr,xv⟩ w3).mono ?_;rintro e w4 ⟨rfl,ah⟩;have ek:=Zpe (hG2.ext ah);have mK:=Zpe (aF.trans ah);have c0:=ah.cell b0;have c1:=ah.cell b1;have bF:=(Zpk _ _ c0);clear b0 b1 b2 hG2 aF ah aP
   cases aI:Zaj ⟨xl,xr,xv⟩
   ·obtain⟨_,l0,l1,r0,r1,aH⟩:=gR aI
    clear gR;obtain⟨ln,rfl⟩:∃n:Nat,xl=n:=⟨xl.toNat,by omega⟩;obtain⟨rn,rfl⟩:∃n:Nat,xr=n:=⟨xr.toNat,by omega⟩;have q1:(ln:Int)<t.length:=by omega
    have q2:(rn:Int)<t.length:=by omega
    obtain⟨s1,s2⟩:=ek.out.cell (j:=ln) (by omega);obtain⟨s3,s4⟩:=ek.out.cell (j:=rn) (by omega);have hgw:g≠wr.heap.size:=by omega
    have hln:¬ (ln=rn):=by omega
    have hrn:¬ (rn=ln):=by omega
    go_wp2_with fail
    go_region_law (fail)
    all_goals
     go_wp2_with fail;go_roundw
     case rel=>exact⟨k+1,by omega,by go_num,Zpe ⟨_,((mK.out.drew).setCell (by simpa using dC) _).setCell (by simpa using dC) _,((ek.out.same (w':=w4.drew) rfl).set _ _).set _ _,by
      rw[←nk.out];unfold Zc3;rw[if_neg (by simp[aI])]
      first|rfl|(rw[Zlx];rfl)⟩⟩
     case measure=>simp[intOf];omega
   ·go_wp2_with fail
    go_roundw
    case rel=>exact⟨k+1,by omega,by go_num,Zpe ⟨_,mK.out,ek.out,by rw[←nk.out];unfold Zc3;rw[if_pos aI]⟩⟩
    case measure=>simp[intOf];omega
  ·obtain rfl:k=t.length:=by omega
   rw[List.drop_length]at nk;go_wp2_with fail;go_ret;exact⟨g,dC,rfl,by rw[←nk];exact hG,hX⟩
theorem Zgm{t:List VN}(w:World)(b o cap:Nat)(h:Zam w b o t)(hc:Zad t=0)(x y:Nat)(hx:x<t.length)(hy:y<t.length) :
  Calls Tryz.prog 195 #[.slice (some ⟨b,o,none⟩) t.length cap,.int .i64 x,.int .i64 y] w fun e w'=>e= .returned (.int .i64 (ZcG t x y))∧Ext w w':=by
 have hq:=Zh7 w b o cap h hc;have fJ:=(Zar hc).2.1
 go_enter Tryz.func195,Tryz.ntmps195
 go_wp2_with fail;refine hq.mono ?_;rintro e w1 ⟨g,hg,rfl,hG,hX⟩;have p1:decide ((x:Int)<0)=false:=Zpu (by omega);have p2:decide ((t.length:Int)≤x)=false:=Zpu (by omega);have p3:decide ((y:Int)<0)=false:=Zpu (by omega);have p4:decide ((t.length:Int)≤y)=false:=Zpu (by omega);clear hq;replace hG:=Zpe hG;go_wp2_with fail
 go_loopw [1,2] (fun i j wr=>∃a b f:Nat,a<t.length∧b<t.length∧i= .int .i64 a∧j= .int .i64 b∧wr=w1∧Hid (Zfp (Zim t) f a b=ZcG t x y∧t.length+t.length≤f+a+b))
  (fun i j _=>t.length+t.length - (intOf i).toNat - (intOf j).toNat)
 case atStart=>exact⟨x,y,t.length+t.length,hx,hy,rfl,rfl,rfl,Zpe ⟨rfl,by omega⟩⟩
 case round =>
  obtain⟨a,b',f,ha,hb,rfl,rfl,rfl,hm⟩:=hrel;clear p1 p2 p3 p4
  by_cases bA:a=b'
  ·subst bA
   have hd:((a:Int) !=a)=false:=by simp
   have hr:a=ZcG t x y:=by
    rw[←hm.out.1]
    cases f <;> simp[Zfp]
   go_wp2_with fail;go_ret;exact⟨by rw[←hr];rfl,hX⟩
  ·have hd:((a:Int) !=b')=true:=by simp;omega
   obtain⟨f,rfl⟩:∃f',f=f'+1:=⟨f - 1,by have:=hm.out.2;omega⟩;have jA:=hm.out.1;have ec:=hm.out.2;simp only[Zfp,if_neg bA]at jA;have q1:(0:Int)≤a:=by omega
   have q2:(0:Int)≤b':=by omega
   have q3:(a:Int)<t.length:=by omega
   have q4:(b':Int)<t.length:=by omega
   by_cases aE:a<b'
   ·rw[if_pos aE]at jA
    replace jA:=Zpe jA;have ky:decide ((a:Int)<b')=true:=Zpv (by omega);obtain⟨s1,_⟩:=hG.out.cell ha;obtain⟨u1,u2⟩:=ZlM hc (j:=a) (by omega);go_wp2_with fail;go_roundw
    case rel=>exact⟨(Zim t a).toNat,b',f,by omega,hb,by congr 1;omega,rfl,by first|rfl|trivial,Zpe ⟨jA.out,by omega⟩⟩
    case measure=>simp[intOf];omega
   ·rw[if_neg aE]at jA
    replace jA:=Zpe jA;have ky:decide ((a:Int)<b')=false:=Zpu (by omega);obtain⟨s1,_⟩:=hG.out.cell hb;obtain⟨u1,u2⟩:=ZlM hc (j:=b') (by omega);go_wp2_with fail;go_roundw
    case rel=>exact⟨a,(Zim t b').toNat,f,ha,by omega,rfl,by congr 1;omega,by first|rfl|trivial,Zpe ⟨jA.out,by omega⟩⟩
    case measure=>simp[intOf];omega
end Go.Proofs.YtmnjakejhbpkoaaGreatDoor
namespace Go.Proofs.YtmnjakejhbpkoaaGreatDoor
open Go Go.RowKit
def Zej (s:St)(a b:Int):Option Nat:=if Zad s.tree=0∧0≤a∧a<s.tree.length∧0≤b∧b<s.tree.length then some (ZcG s.tree a.toNat b.toNat) else none
def ZbX (g:St→Nat→Option (Nat × St))(s:St)(a pl:Nat):Option (List (Nat × Nat) × St) :=
 match s.nodes[a]? with
 | none=>none
 | some n=>if n.pl=pl then some (n.el,s) else
   match s.tree[pl]? with
   | none=>none
   | some x=>match Zej s n.pl x.left with
     | none=>none
     | some m=>if (m:Int)=x.left then
        match g s a with
        | none=>none
        | some (b,s1)=>some ([(a,1),(b,0)],s1)
       else some ([(1,a)],s)
end Go.Proofs.YtmnjakejhbpkoaaGreatDoor
namespace Go.Proofs.YtmnjakejhbpkoaaGreatDoor
open Go Go.RowKit
def orF (nf:St→Nat→Option (Nat × St))(af:St→Nat→Nat→Option (Nat × St))(s:St)(a b:Nat):Option (Nat × St) :=
 match nf s a with
 | none=>none
 | some (x,s1)=>match nf s1 b with
   | none=>none
   | some (y,s2)=>match af s2 x y with
     | none=>none
     | some (z,s3)=>nf s3 z
def Zcp (of:St→Nat→Nat→Option (Nat × St)):List (Nat × Nat)→St→List (Nat × Nat)→List Nat→Option (St × List (Nat × Nat) × List Nat)
 | [],s,m,u=>some (s,m,u)
 | p :: r,s,m,u=>match asc m p.2 with
   | some q=>match of s q p.1 with
     | none=>none
     | some (z,s1)=>Zcp of r s1 ((p.2,z) :: m) u
   | none=>Zcp of r s ((p.2,p.1) :: m) (u++[p.2])
def Zdh (m:List (Nat × Nat))(a:Nat):Nat:=match asc m a with
 | some v=>v
 | none=>0
def ZjG (of:St→Nat→Nat→Option (Nat × St))(s:St)(pl:Nat)(l:List (Nat × Nat)):Option (Nat × St) :=
 match (if l.length≤1048576 then Zcp of l s [] [] else none) with
 | none=>none
 | some (s1,m,u) =>
   match u with
   | [x]=>some (x,s1)
   | [x,y]=>if x<2∧y<2 then some (Zdh m 1,s1) else Zbn s1 pl [(Zdh m x,x),(Zdh m y,y)]
   | u=>Zbn s1 pl (u.map fun x=>(Zdh m x,x))
end Go.Proofs.YtmnjakejhbpkoaaGreatDoor
namespace Go.Proofs.YtmnjakejhbpkoaaGreatDoor
open Go Go.RowKit
def ZbD (af:St→Nat→Nat→Option (Nat × St))(p:Nat × Nat):List (Nat × Nat)→St→List (Nat × Nat)→Option (List (Nat × Nat) × St)
 | [],s,out=>some (out,s)
 | q :: r,s,out=>match af s p.1 q.1 with
   | none=>none
   | some (pr,s1)=>if pr=0 then ZbD af p r s1 out else
     match af s1 p.2 q.2 with
     | none=>none
     | some (su,s2)=>ZbD af p r s2 (out++[(pr,su)])
def ZbT (af:St→Nat→Nat→Option (Nat × St))(right:List (Nat × Nat)):List (Nat × Nat)→St→List (Nat × Nat)→Option (List (Nat × Nat) × St)
 | [],s,out=>some (out,s)
 | p :: r,s,out=>match ZbD af p right s out with
   | none=>none
   | some (ej,s1)=>ZbT af right r s1 ej
def Zdr (s:St)(a:Nat):Int:=match s.nodes[a]? with
 | some n=>n.pl
 | none=>-1
def ZeA (nf:St→Nat→Option (Nat × St))(af:St→Nat→Nat→Option (Nat × St))(s:St)(a b:Nat):Option (Nat × St) :=
 match Zej s (Zdr s a) (Zdr s b) with
 | none=>none
 | some pl=>match ZbX nf s b pl with
   | none=>none
   | some (right,s1)=>match ZbX nf s1 a pl with
     | none=>none
     | some (left,s2)=>match ZbT af right left s2 [] with
       | none=>none
       | some (l,s3)=>match ZjG (orF nf af) s3 pl l with
         | none=>none
         | some (c,s4)=>some (c,{ s4 with ands:=((a,b),c) :: s4.ands })
def ZdZ (nf:St→Nat→Option (Nat × St))(af:St→Nat→Nat→Option (Nat × St))(s:St)(a b:Nat):Option (Nat × St) :=
 if a=0∨a=b then some (a,s) else if a=1 then some (b,s) else
  match nf s a with
  | none=>none
  | some (na,s1)=>if na=b then some (0,s1) else
    match asc s1.ands (a,b) with
    | some c=>some (c,s1)
    | none=>ZeA nf af s1 a b
def ZhD:Nat→St→Nat→Nat→Option (Nat × St)
 | 0,_,_,_=>none
 | f+1,s,a,b=>if b<a then ZdZ (Zlb f) (ZhD f) s b a else ZdZ (Zlb f) (ZhD f) s a b
end Go.Proofs.YtmnjakejhbpkoaaGreatDoor
namespace Go.Proofs.YtmnjakejhbpkoaaGreatDoor
open Go Go.RowKit Go.Shelf
def ZlZ (l:List (Nat × Nat))(B:Zas)(s':St)(w:World)(e:Ending)(w':World):Prop:=∃v,e= .returned v∧ZcM w' v l∧∃B',Rep B' s' w'∧Stp [] B w B' w'
theorem Rep.treeAt{B:Zas}{s:St}{w:World}(h:Rep B s w):Zam w B.tb 0 s.tree:=fun _ _ hj=>h.tree.cell hj
theorem Zgn{w:World}(pl lit:Int)(v:Value)(a b:Int):Ext w (w.alloc (.cells #[.int .i64 pl,.int .i64 lit,v,.int .u64 a,.int .u64 b] Za6)) ∧
  (w.alloc (.cells #[.int .i64 pl,.int .i64 lit,v,.int .u64 a,.int .u64 b] Za6)).heap[w.heap.size]? =some (.cells #[.int .i64 pl,.int .i64 lit,v,.int .u64 a,.int .u64 b] Za6 (0,0)) :=
 ⟨(Ext.refl w).alloc _,Zpm w _⟩
theorem Zbo{s:St}{a b:Int}{m:Nat}(h:Zej s a b=some m):Zad s.tree=0∧∃x y:Nat,a=x∧b=y∧x<s.tree.length∧y<s.tree.length∧m=ZcG s.tree x y:=by
 unfold Zej at h
 split at h
 ·rename_i hc
  obtain⟨h0,h1,h2,h3,h4⟩:=hc;simp only[Zpw]at h;exact⟨h0,a.toNat,b.toNat,by omega,by omega,by omega,by omega,h.symm⟩
 ·cases h
theorem Zig{B:Zas}{s:St}{w:World}{a pl:Nat}{n:Zaf}(h:Rep B s w)(hn:s.nodes[a]? =some n)(hp:n.pl=pl) :
  Calls Tryz.prog 196 #[.pointer (some ⟨B.sb,0,none⟩),.int .i64 a,.int .i64 pl] w (ZlZ n.el B s w):=by
 obtain⟨cap,_,_,cn,_,_,c5⟩:=h.cells;obtain⟨v,hv,iI,n0,n1,n2,n3,n4⟩:=h.node hn;have nG:a<s.nodes.length:=(Zpj hn).1;have kC:(0:Int)≤a:=by omega
 have gQ:(a:Int)<s.nodes.length:=by omega
 rw[hp]at n0;obtain⟨ba,cp,rfl,ap⟩:=hv;obtain⟨aV,aK⟩:=Zgn (w:=w) pl n.lit (.slice ba n.el.length cp) (lo n.le) (hi n.le);unfold Za6 at aV aK;replace ap:=Zpe ap
 go_enter Tryz.func196,Tryz.ntmps196
 go_wp2_with fail;generalize w.alloc (.cells #[.int .i64 pl,.int .i64 n.lit,.slice ba n.el.length cp,.int .u64 (lo n.le),.int .u64 (hi n.le)] 158)=w1 at *;obtain⟨b0,b1,b2,b3,b4,_⟩:=Zbb aK
 try go_wp2_with fail
 go_ret;refine⟨_,rfl,ZcM.same ⟨ba,cp,rfl,ap.out⟩ (fun b c fz hb=>aV.below.block b (Zpi hb).1),B,h.below aV.below,Stp.of_below aV.below⟩
theorem Zif{g:St→Nat→Option (Nat × St)}(ih:ZbI g){B:Zas}{s s1:St}{w:World}{a pl m b:Nat}{n:Zaf}{x:VN}(h:Rep B s w)(hn:s.nodes[a]? =some n)(hp:n.pl≠pl)(hx:s.tree[pl]? =some x)
  (hm:Zej s n.pl x.left=some m) (lr:(m:Int)=x.left) (hg:g s a=some (b,s1)) :
  Calls Tryz.prog 196 #[.pointer (some ⟨B.sb,0,none⟩),.int .i64 a,.int .i64 pl] w (ZlZ [(a,1),(b,0)] B s1 w):=by
 obtain⟨cap,ct,_,cn,_,_,c5⟩:=h.cells;obtain⟨v,hv,iI,n0,n1,n2,n3,n4⟩:=h.node hn;have nG:a<s.nodes.length:=(Zpj hn).1;have kC:(0:Int)≤a:=by omega
 have gQ:(a:Int)<s.nodes.length:=by omega
 have xg:pl<s.tree.length:=(Zpj hx).1;have qR:(0:Int)≤pl:=by omega
 have iU:(pl:Int)<s.tree.length:=by omega
 have sj:((n.pl:Int) ==pl)=false:=by simpa using hp
 obtain⟨t0,t1,t2⟩:=h.treeAt.node xg;have cu:s.tree[pl]=x:=(Zpj hx).2;rw[cu,Nat.zero_add]at t0;obtain⟨hc,p,q,e1,e2,jj,db,rfl⟩:=Zbo hm;rw[e2]at lr t0;rw[e1]at n0 sj;have hmq:ZcG s.tree p q=q:=by omega
 obtain⟨ba,cp,rfl,ap⟩:=hv;obtain⟨aV,aK⟩:=Zgn (w:=w) p n.lit (.slice ba n.el.length cp) (lo n.le) (hi n.le);unfold Za6 at aV aK;have du:=h.treeAt;replace du:=Zpe du;replace hc:=Zpe hc;clear ap iI t1 t2 hm lr hx cu
 go_enter Tryz.func196,Tryz.ntmps196
 go_wp2_with fail;generalize w.alloc (.cells #[.int .i64 p,.int .i64 n.lit,.slice ba n.el.length cp,.int .u64 (lo n.le),.int .u64 (hi n.le)] 158)=w1 at *;obtain⟨b0,b1,b2,b3,b4,_⟩:=Zbb aK
 try go_wp2_with fail
 have F1:∀w':World,Ext w1 w'→w'.cell? ⟨w.heap.size,0,none⟩=some (.int .i64 p)∧w'.cell? ⟨B.sb,0,none⟩=some (.slice (some ⟨B.tb,0,none⟩) s.tree.length B.tc)∧w'.cell? ⟨B.tb,pl*3,none⟩=some (.int .i64 q) :=
  fun w' dL=>⟨dL.cell b0,dL.cell (aV.cell ct),dL.cell (aV.cell t0)⟩
 replace F1:=Zpe F1;replace hn:=Zpe hn;replace hg:=Zpe hg
 (refine Zah (by kernel_rfl) (by kernel_rfl) ?_
  repeat (refine wpQuiet_step (fun K hK=>?_)
          go_simp
          first
           | (refine hK _ ?_;clear hK K)
           | (replace hK:=Zpe hK
              apply Exists.intro
              refine⟨fun wq hq=>?_,hK.out _ ?_⟩
              ·(obtain⟨f1,f2,f3⟩:=F1.out wq hq)
               go_simp
               first
                | done
                | rfl
                | exact⟨rfl,rfl⟩
                | (refine(Zgm wq B.tb 0 B.tc (du.out.ext (aV.trans hq)) hc.out p q jj db).mono ?_;rintro e w' ⟨rfl,hb⟩;exact⟨rfl,hq.trans hb⟩)
              clear hK K))
  refine wpQuiet_nil ?_)
 intro w2 cA;have bM:=h.below (aV.trans cA).below;have aZ:Stp [] B w B w2:=Stp.of_below (aV.trans cA).below;have uW:((ZcG s.tree p q:Int) ==q)=true:=by rw[hmq];simp
 have be:=ih B s s1 w2 a b bM hg.out;clear F1 b0 b1 b2 b3 b4 n0 n1 n2 n3 n4 aK;go_wp2_with fail;refine be.mono ?_;rintro e w3 ⟨rfl,B3,fO,bd⟩;replace fO:=Zpe fO;go_wp2_with fail;go_ret;have aR:Ext w3 (w3.alloc (.cells #[.int .i64 a,.int .i64 1,.int .i64 b,.int .i64 0] 165)):=(Ext.refl w3).alloc _;exact⟨_,rfl,⟨_,_,rfl,.inr ⟨_,0,rfl,_,_,Zpm w3 _,fun j u hj=>by rw[Nat.zero_add];simpa [ZaL] using hj⟩⟩,B3,fO.out.below aR.below,(aZ.then bd).then (Stp.of_below aR.below)⟩
theorem Zhm{B:Zas}{s:St}{w:World}{a pl m:Nat}{n:Zaf}{x:VN}(h:Rep B s w)(hn:s.nodes[a]? =some n)(hp:n.pl≠pl)(hx:s.tree[pl]? =some x)
  (hm:Zej s n.pl x.left=some m) (lr:¬ (m:Int)=x.left) :
  Calls Tryz.prog 196 #[.pointer (some ⟨B.sb,0,none⟩),.int .i64 a,.int .i64 pl] w (ZlZ [(1,a)] B s w):=by
 obtain⟨cap,ct,_,cn,_,_,c5⟩:=h.cells;obtain⟨v,hv,iI,n0,n1,n2,n3,n4⟩:=h.node hn;have nG:a<s.nodes.length:=(Zpj hn).1;have kC:(0:Int)≤a:=by omega
 have gQ:(a:Int)<s.nodes.length:=by omega
 have xg:pl<s.tree.length:=(Zpj hx).1;have qR:(0:Int)≤pl:=by omega
 have iU:(pl:Int)<s.tree.length:=by omega
 have sj:((n.pl:Int) ==pl)=false:=by simpa using hp
 obtain⟨t0,t1,t2⟩:=h.treeAt.node xg;have cu:s.tree[pl]=x:=(Zpj hx).2;rw[cu,Nat.zero_add]at t0;obtain⟨hc,p,q,e1,e2,jj,db,rfl⟩:=Zbo hm;rw[e2]at lr t0;rw[e1]at n0 sj;have hmq:¬ (ZcG s.tree p q=q):=by omega
 obtain⟨ba,cp,rfl,ap⟩:=hv;obtain⟨aV,aK⟩:=Zgn (w:=w) p n.lit (.slice ba n.el.length cp) (lo n.le) (hi n.le);unfold Za6 at aV aK;have du:=h.treeAt;replace du:=Zpe du;replace hc:=Zpe hc;clear ap iI t1 t2 hm lr hx cu
 go_enter Tryz.func196,Tryz.ntmps196
 go_wp2_with fail;generalize w.alloc (.cells #[.int .i64 p,.int .i64 n.lit,.slice ba n.el.length cp,.int .u64 (lo n.le),.int .u64 (hi n.le)] 158)=w1 at *;obtain⟨b0,b1,b2,b3,b4,_⟩:=Zbb aK
 try go_wp2_with fail
 have F1:∀w':World,Ext w1 w'→w'.cell? ⟨w.heap.size,0,none⟩=some (.int .i64 p)∧w'.cell? ⟨B.sb,0,none⟩=some (.slice (some ⟨B.tb,0,none⟩) s.tree.length B.tc)∧w'.cell? ⟨B.tb,pl*3,none⟩=some (.int .i64 q) :=
  fun w' dL=>⟨dL.cell b0,dL.cell (aV.cell ct),dL.cell (aV.cell t0)⟩
 replace F1:=Zpe F1;replace hn:=Zpe hn
 (refine Zah (by kernel_rfl) (by kernel_rfl) ?_
  repeat (refine wpQuiet_step (fun K hK=>?_)
          go_simp
          first
           | (refine hK _ ?_;clear hK K)
           | (replace hK:=Zpe hK
              apply Exists.intro
              refine⟨fun wq hq=>?_,hK.out _ ?_⟩
              ·(obtain⟨f1,f2,f3⟩:=F1.out wq hq)
               go_simp
               first
                | done
                | rfl
                | exact⟨rfl,rfl⟩
                | (refine(Zgm wq B.tb 0 B.tc (du.out.ext (aV.trans hq)) hc.out p q jj db).mono ?_;rintro e w' ⟨rfl,hb⟩;exact⟨rfl,hq.trans hb⟩)
              clear hK K))
  refine wpQuiet_nil ?_)
 intro w3 cA;have bM:=h.below (aV.trans cA).below;have aZ:Stp [] B w B w3:=Stp.of_below (aV.trans cA).below;have uW:((ZcG s.tree p q:Int) ==q)=false:=by simp;omega
 clear F1 b0 b1 b2 b3 b4 n0 n1 n2 n3 n4 aK;replace bM:=Zpe bM;go_wp2_with fail;go_ret;have aR:Ext w3 (w3.alloc (.cells #[.int .i64 1,.int .i64 a] 165)):=(Ext.refl w3).alloc _;exact⟨_,rfl,⟨_,_,rfl,.inr ⟨_,0,rfl,_,_,Zpm w3 _,fun j u hj=>by rw[Nat.zero_add];simpa [ZaL] using hj⟩⟩,B,bM.out.below aR.below,aZ.then (Stp.of_below aR.below)⟩
theorem ZfT{g:St→Nat→Option (Nat × St)}(ih:ZbI g){B:Zas}{s s1:St}{w:World}{a pl:Nat}{l:List (Nat × Nat)}(h:Rep B s w)(he:ZbX g s a pl=some (l,s1)) :
  Calls Tryz.prog 196 #[.pointer (some ⟨B.sb,0,none⟩),.int .i64 a,.int .i64 pl] w (ZlZ l B s1 w):=by
 unfold ZbX at he
 split at he
 ·cases he
 ·rename_i n hn
  split at he
  ·rename_i hp
   simp only[Zpw,Prod.mk.injEq]at he;obtain⟨rfl,rfl⟩:=he;exact Zig h hn hp
  ·rename_i hp
   split at he
   ·cases he
   ·rename_i x hx
    split at he
    ·cases he
    ·rename_i m hm
     split at he
     ·rename_i lr
      split at he
      ·cases he
      ·rename_i b s2 hg
       simp only[Zpw,Prod.mk.injEq]at he;obtain⟨rfl,rfl⟩:=he;exact Zif ih h hn hp hx hm lr hg
     ·rename_i lr
      simp only[Zpw,Prod.mk.injEq]at he;obtain⟨rfl,rfl⟩:=he;exact Zhm h hn hp hx hm lr
end Go.Proofs.YtmnjakejhbpkoaaGreatDoor
namespace Go.Proofs.YtmnjakejhbpkoaaGreatDoor
open Go Go.RowKit Go.Shelf
def ZdE (g:St→Nat→Nat→Option (Nat × St)):Prop:=∀(B:Zas) (s s':St) (w:World) (a b r:Nat),Rep B s w→g s a b=some (r,s') →
 Calls Tryz.prog 154 #[.pointer (some ⟨B.sb,0,none⟩),.int .i64 a,.int .i64 b] w (ZaB [] (.int .i64 r) B s' w)
def ZlY (g:St→Nat→Nat→Option (Nat × St)):Prop:=∀(B:Zas) (s s':St) (w:World) (a b r:Nat),Rep B s w→g s a b=some (r,s') →
 Calls Tryz.prog 109 #[.pointer (some ⟨B.sb,0,none⟩),.int .i64 a,.int .i64 b] w (ZaB [] (.int .i64 r) B s' w)
theorem Zgq{nf:St→Nat→Option (Nat × St)}{af:St→Nat→Nat→Option (Nat × St)}(hn:ZbI nf)(ha:ZdE af):ZlY (orF nf af):=by
 intro B s s' w a b r h he;unfold orF at he
 split at he
 ·cases he
 ·rename_i x s1 h1
  split at he
  ·cases he
  ·rename_i y s2 h2
   split at he
   ·cases he
   ·rename_i z s3 h3
    have c1:=hn B s s1 w a x h h1;replace h1:=Zpe h1;replace h2:=Zpe h2;replace h3:=Zpe h3;replace he:=Zpe he
    go_enter Tryz.func109,Tryz.ntmps109
    go_wp2_with fail;refine c1.mono ?_;rintro e w1 ⟨rfl,B1,aU,bO⟩;have c2:=hn B1 s1 s2 w1 b y aU h2.out;rw[bO.sb]at c2;replace aU:=Zpe aU;go_wp2_with fail;refine c2.mono ?_;rintro e w2 ⟨rfl,B2,bM,aZ⟩;have c3:=ha B2 s2 s3 w2 x y z bM h3.out;rw[aZ.sb,bO.sb]at c3;replace bM:=Zpe bM;go_wp2_with fail;refine c3.mono ?_;rintro e w3 ⟨rfl,B3,fO,bd⟩;have c4:=hn B3 s3 s' w3 z r fO he.out;rw[bd.sb,aZ.sb,bO.sb]at c4;replace fO:=Zpe fO;go_wp2_with fail;refine c4.mono ?_;rintro e w4 ⟨rfl,B4,j7,dA⟩;replace j7:=Zpe j7;go_wp2_with fail;go_ret;exact⟨rfl,B4,j7.out,((bO.then aZ).then bd).then dA⟩
end Go.Proofs.YtmnjakejhbpkoaaGreatDoor
