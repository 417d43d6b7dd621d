import Derived.Test.YtemnmcfmabamcaaGreatDoorYNot
import Derived.Deep.OwnRows
set_option linter.unusedSimpArgs false
set_option linter.unusedVariables false
set_option maxRecDepth 100000
set_option maxHeartbeats 4000000
namespace Go.Proofs.YtemnmcfmabamcaaGreatDoor
open Go Go.RowKit Go.Shelf
theorem Zrm(a1 a2 a3 b1 b2 b3:Int)(w:World):(Op.equal 78 (.agg #[.int .i64 a1,.int .i64 a2,.int .i64 a3]) (.agg #[.int .i64 b1,.int .i64 b2,.int .i64 b3])).run Tryz.prog w= .ok (decide (a1=b1) && decide (a2=b2) && decide (a3=b3)) w:=by
 unfold Op.equal Op.maxDepth;rw[run_equalIn_agg w _ _ _ _ (by kernel_rfl) (by kernel_rfl)];simp only[Program.fieldsOf,Tryz.underlying78,List.toArray,Op.eqFields];simp[go_sem,Op.eqFields,Tryz.underlying3]
 by_cases h1:a1=b1 <;> by_cases h2:a2=b2 <;> by_cases h3:a3=b3 <;> simp[h1,h2,h3]
theorem ZaE(v:Int)(w:World):Calls Tryz.prog 59 #[.int .i64 v] w fun e w'=>e= .returned (.agg #[.int .i64 (-1),.int .i64 (-1),.int .i64 v])∧Ext w w':=by
 go_enter Tryz.func59,Tryz.ntmps59
 go_wp2_with fail
 go_returns
 exact⟨rfl,⟨by go_grown,ZrQ _⟩⟩
def Zai (x:VN):Bool:=decide (x.left= -1) && decide (x.right= -1) && (decide (1≤x.var) && decide (x.var≤128))
def Zfn (x:VN):Value:=.agg #[.int .i64 x.left,.int .i64 x.right,.int .i64 x.var]
theorem Za5{w:World}{k:Nat}{x y z:Value}{t:TypeId}(h:w.heap[k]? =some (.cells #[x,y,z] t (0,0))):w.cell? ⟨k,0,none⟩=some x∧w.cell? ⟨k,1,none⟩=some y∧w.cell? ⟨k,2,none⟩=some z:=by
 refine⟨?_,?_,?_⟩ <;> simp[World.cell?,h]
theorem Zbu(x:VN)(w:World):Calls Tryz.prog 54 #[.agg #[.int .i64 x.left,.int .i64 x.right,.int .i64 x.var]] w fun e w'=>e= .returned (.bool (Zai x))∧Ext w w':=by
 obtain⟨l,r,v⟩:=x
 show Calls Tryz.prog 54 #[.agg #[.int .i64 l,.int .i64 r,.int .i64 v]] w fun e w'=>e= .returned (.bool (Zai ⟨l,r,v⟩))∧Ext w w'
 have aC:=Zrz w (.cells #[.int .i64 l,.int .i64 r,.int .i64 v] 78);have aW:Ext w (w.alloc (.cells #[.int .i64 l,.int .i64 r,.int .i64 v] 78)):=(Ext.refl w).alloc _;have hl:=Zrr (show Zai ⟨l,r,v⟩=(decide (l= -1) && decide (r= -1) && (decide (1≤v) && decide (v≤128))) from rfl)
 have pv:∀w',(Op.equalIn 10000 78 (.agg #[.int .i64 l,.int .i64 r,.int .i64 v]) (.agg #[.int .i64 (-1),.int .i64 (-1),.int .i64 v])).run Tryz.prog w'= .ok (decide (l= -1) && decide (r= -1)) w':=fun w'=>by
  have h2:(Op.equalIn 10000 78 (.agg #[.int .i64 l,.int .i64 r,.int .i64 v]) (.agg #[.int .i64 (-1),.int .i64 (-1),.int .i64 v])).run Tryz.prog w'= .ok (decide (l= -1) && decide (r= -1) && decide (v=v)) w':=Zrm l r v (-1) (-1) v w';rw[h2];simp
 have fin:∀(b:Bool),b=Zai ⟨l,r,v⟩→Zai ⟨l,r,v⟩=b:=fun b h=>h.symm
 replace fin:=Zrr fin
 by_cases h1:1≤v
 ·by_cases h2:v≤128
  ·go_enter Tryz.func54,Tryz.ntmps54
   go_wp2_with fail;generalize w.alloc (.cells #[.int .i64 l,.int .i64 r,.int .i64 v] 78)=w1 at *;obtain⟨b0,b1,b2⟩:=Za5 aC;have F1:∀w':World,Ext w1 w'→w'.cell? ⟨w.heap.size,0,none⟩=some (.int .i64 l)∧w'.cell? ⟨w.heap.size,1,none⟩=some (.int .i64 r)∧w'.cell? ⟨w.heap.size,2,none⟩=some (.int .i64 v):=fun w' h=>⟨h.cell b0,h.cell b1,h.cell b2⟩
   replace F1:=Zrr F1
   (refine Zaf (by kernel_rfl) (by kernel_rfl) ?_
    repeat (refine wpQuiet_step (fun K hK=>?_)
            go_simp
            first
             | (refine hK _ ?_;clear hK K)
             | (replace hK:=Zrr hK
                apply Exists.intro
                refine⟨fun wq hq=>?_,hK.out _ ?_⟩
                ·(obtain⟨f1,f2,f3⟩:=F1.out wq hq)
                 go_simp
                 first
                  | done
                  | rfl
                  | exact⟨rfl,rfl⟩
                  | (refine(ZaE _ _).mono ?_;rintro e w' ⟨rfl,hb⟩;exact⟨rfl,hq.trans hb⟩)
                clear hK K))
    refine wpQuiet_nil ?_)
   intro w2 bS;go_wp2_with fail;go_ret;exact⟨by rw[hl.out];simp[h1,h2],aW.trans bS⟩
  ·have d2:decide (v≤128)=false:=ZrH h2
   go_enter Tryz.func54,Tryz.ntmps54
   go_wp2_with fail;generalize w.alloc (.cells #[.int .i64 l,.int .i64 r,.int .i64 v] 78)=w1 at *;obtain⟨b0,b1,b2⟩:=Za5 aC;have F1:∀w':World,Ext w1 w'→w'.cell? ⟨w.heap.size,0,none⟩=some (.int .i64 l)∧w'.cell? ⟨w.heap.size,1,none⟩=some (.int .i64 r)∧w'.cell? ⟨w.heap.size,2,none⟩=some (.int .i64 v):=fun w' h=>⟨h.cell b0,h.cell b1,h.cell b2⟩
   replace F1:=Zrr F1
   (refine Zaf (by kernel_rfl) (by kernel_rfl) ?_
    repeat (refine wpQuiet_step (fun K hK=>?_)
            go_simp
            first
             | (refine hK _ ?_;clear hK K)
             | (replace hK:=Zrr hK
                apply Exists.intro
                refine⟨fun wq hq=>?_,hK.out _ ?_⟩
                ·(obtain⟨f1,f2,f3⟩:=F1.out wq hq)
                 go_simp
                 first
                  | done
                  | rfl
                  | exact⟨rfl,rfl⟩
                  | (refine(ZaE _ _).mono ?_;rintro e w' ⟨rfl,hb⟩;exact⟨rfl,hq.trans hb⟩)
                clear hK K))
    refine wpQuiet_nil ?_)
   intro w2 bS;go_wp2_with fail;go_ret;exact⟨by rw[hl.out];simp[h1,h2],aW.trans bS⟩
 ·have d1:decide (1≤v)=false:=ZrH h1
  go_enter Tryz.func54,Tryz.ntmps54
  go_wp2_with fail;generalize w.alloc (.cells #[.int .i64 l,.int .i64 r,.int .i64 v] 78)=w1 at *;obtain⟨b0,b1,b2⟩:=Za5 aC;have F1:∀w':World,Ext w1 w'→w'.cell? ⟨w.heap.size,0,none⟩=some (.int .i64 l)∧w'.cell? ⟨w.heap.size,1,none⟩=some (.int .i64 r)∧w'.cell? ⟨w.heap.size,2,none⟩=some (.int .i64 v):=fun w' h=>⟨h.cell b0,h.cell b1,h.cell b2⟩
  replace F1:=Zrr F1
  (refine Zaf (by kernel_rfl) (by kernel_rfl) ?_
   repeat (refine wpQuiet_step (fun K hK=>?_)
           go_simp
           first
            | (refine hK _ ?_;clear hK K)
            | (replace hK:=Zrr hK
               apply Exists.intro
               refine⟨fun wq hq=>?_,hK.out _ ?_⟩
               ·(obtain⟨f1,f2,f3⟩:=F1.out wq hq)
                go_simp
                first
                 | done
                 | rfl
                 | exact⟨rfl,rfl⟩
                 | (refine(ZaE _ _).mono ?_;rintro e w' ⟨rfl,hb⟩;exact⟨rfl,hq.trans hb⟩)
               clear hK K))
   refine wpQuiet_nil ?_)
  intro w2 bS;go_wp2_with fail;go_ret;exact⟨by rw[hl.out];simp[h1];first|done|(intros;omega),aW.trans bS⟩
end Go.Proofs.YtemnmcfmabamcaaGreatDoor
namespace Go.Proofs.YtemnmcfmabamcaaGreatDoor
open Go Go.RowKit Go.Shelf
def Zbr (f:Nat→Bool)(i:Nat):Nat→Bool:=fun j=>if j=i then true else f j
def Ze7 (i:Nat)(k:Int)(c:Nat→Bool):Option (Nat→Bool):=if k<0∨(i:Int)≤k∨c k.toNat=true then none else some (Zbr c k.toNat)
def Zcc (i:Nat)(x:VN)(sc:(Nat→Bool) × (Nat→Bool)):Option ((Nat→Bool) × (Nat→Bool)) :=
 if Zai x=true then (if sc.1 x.var.toNat=true then none else some (Zbr sc.1 x.var.toNat,sc.2))
 else if x.var≠0 then none
 else match Ze7 i x.left sc.2 with
  | none=>none
  | some c=>match Ze7 i x.right c with
    | none=>none
    | some c'=>some (sc.1,c')
def Zca:List VN→Nat→((Nat→Bool) × (Nat→Bool))→Option ((Nat→Bool) × (Nat→Bool))
 | [],_,sc=>some sc
 | x :: r,i,sc=>match Zcc i x sc with
   | none=>none
   | some sc'=>Zca r (i+1) sc'
def Zqg (n:Nat):Option ((Nat→Bool) × (Nat→Bool))→Int
 | none=>1
 | some sc=>if (List.range (n - 1)).all sc.2=true then 0 else 1
def Zae (t:List VN):Int:=if t.length=0∨255<t.length then 1 else Zqg t.length (Zca t 0 (fun _=>false,fun _=>false))
def ZaU (w:World)(b:Nat)(t:TypeId)(n:Nat)(f:Nat→Bool):Prop:=∃c,w.heap[b]? =some (.cells c t (0,0))∧c.size=n∧∀j,j<n→c[j]? =some (.bool (f j))
theorem ZaU.cell{w:World}{b:Nat}{t:TypeId}{n:Nat}{f:Nat→Bool}(h:ZaU w b t n f){j:Nat}(hj:j<n):w.cell? ⟨b,j,none⟩=some (.bool (f j))∧w.frozen? ⟨b,j,none⟩=false:=by
 obtain⟨c,h1,h2,h3⟩:=h;simp[World.cell?,World.frozen?,h1,h3 j hj]
theorem ZaU.same{w w':World}{b:Nat}{t:TypeId}{n:Nat}{f:Nat→Bool}(h:ZaU w b t n f)(hs:w'.heap[b]? =w.heap[b]?):ZaU w' b t n f:=by
 obtain⟨c,h1,h2,h3⟩:=h;exact⟨c,hs.trans h1,h2,h3⟩
theorem ZaU.lt{w:World}{b:Nat}{t:TypeId}{n:Nat}{f:Nat→Bool}(h:ZaU w b t n f):b<w.heap.size:=by
 obtain⟨c,h1,h2,h3⟩:=h;exact(Zrv h1).1
theorem ZaU.ext{w w':World}{b:Nat}{t:TypeId}{n:Nat}{f:Nat→Bool}(h:ZaU w b t n f)(hs:Ext w w'):ZaU w' b t n f:=h.same (hs.below.block b h.lt)
theorem ZaU.set{w:World}{b:Nat}{t:TypeId}{n:Nat}{f:Nat→Bool}(h:ZaU w b t n f)(i:Nat):ZaU (w.setCell ⟨b,i,none⟩ (.bool true)) b t n (Zbr f i):=by
 obtain⟨c,h1,h2,h3⟩:=h;refine⟨_,Zaj h1 i _,by simpa using h2,fun j hj=>?_⟩;rw[Array.getElem?_setIfInBounds]
 by_cases iD:i=j
 ·subst iD
  rw[if_pos rfl,if_pos (by omega)];simp[Zbr]
 ·rw[if_neg iD,h3 j hj]
  simp[Zbr,Ne.symm iD]
theorem ZaU.other{w:World}{b:Nat}{t:TypeId}{n:Nat}{f:Nat→Bool}(h:ZaU w b t n f){b':Nat}(hb:b≠b')(i:Nat)(v:Value):ZaU (w.setCell ⟨b',i,none⟩ v) b t n f :=
 h.same (Below.heap_setCell _ _ _ b hb)
def Zag (w:World)(b o:Nat)(t:List VN):Prop:=∀j u,(Zal t)[j]? =some u→w.cell? ⟨b,o+j,none⟩=some u
theorem Zed(t:List VN)(k:Nat)(hk:k<t.length):(Zal t)[k*3]? =some (.int .i64 t[k].left)∧(Zal t)[k*3+1]? =some (.int .i64 t[k].right)∧(Zal t)[k*3+2]? =some (.int .i64 t[k].var):=by
 induction t generalizing k with
 | nil=>simp at hk
 | cons x r ih =>
   cases k with
   | zero=>simp[Zal]
   | succ k =>
     obtain⟨h1,h2,h3⟩:=ih k (by simpa using hk)
     have e:∀m,(Zal (x :: r))[(k+1)*3+m]? =(Zal r)[k*3+m]?:=by
      intro m;simp only[Zal,List.flatMap_cons];rw[List.getElem?_append_right (by simp;omega)]
      congr 1;simp;omega
     have e0:=e 0;simp only[Nat.add_zero]at e0;rw[e0,e 1,e 2];simpa using ⟨h1,h2,h3⟩
theorem Zag.node{w:World}{b o:Nat}{t:List VN}(h:Zag w b o t){k:Nat}(hk:k<t.length):w.cell? ⟨b,o+k*3,none⟩=some (.int .i64 t[k].left)∧w.cell? ⟨b,o+k*3+1,none⟩=some (.int .i64 t[k].right)∧w.cell? ⟨b,o+k*3+2,none⟩=some (.int .i64 t[k].var):=by
 obtain⟨h1,h2,h3⟩:=Zed t k hk;exact⟨h _ _ h1,by have:=h _ _ h2;rwa [←Nat.add_assoc]at this,by have:=h _ _ h3;rwa [←Nat.add_assoc]at this⟩
theorem Zag.ext{w w':World}{b o:Nat}{t:List VN}(h:Zag w b o t)(hs:Ext w w'):Zag w' b o t:=fun j u hj=>hs.cell (h j u hj)
theorem ZhQ:(Tryz.prog.info? 4).map (fun i=>(i.zero,i.size,i.bytes))=some (some (.bool false),1,1):=by kernel_rfl
theorem ZlD{t:List VN}(w:World)(ba:Option Addr)(cap:Nat)(h:t.length=0∨255<t.length) :
  Calls Tryz.prog 33 #[.slice ba t.length cap] w fun e w'=>e= .returned (.int .i64 1)∧Ext w w':=by
 by_cases h0:t.length=0
 ·rw[h0]
  go_enter Tryz.func33,Tryz.ntmps33
  go_wp2_with fail;go_ret;exact⟨rfl,Ext.refl w⟩
 ·have h1:((t.length:Int) ==0)=false:=by simp;intro e;exact h0 (by simp[e])
  have h2:decide ((255:Int)<t.length)=true:=by simp;omega
  have h3:(255:Int)<t.length:=by omega
  go_enter Tryz.func33,Tryz.ntmps33
  go_wp2_with fail;go_ret;exact⟨rfl,Ext.refl w⟩
theorem Zke:Tryz.zeroCells127=Array.replicate 129 (.bool false):=by kernel_rfl
theorem ZeZ(w:World)(c:Array Value)(t:TypeId)(n:Nat)(hc:c=Array.replicate n (.bool false))(ad:Nat)(ha:ad=w.heap.size):ZaU (w.alloc (.cells c t)) ad t n (fun _=>false):=by
 subst hc;refine⟨_,Zaq w _ ad ha,by simp,fun j hj=>by simp[hj]⟩
theorem Zmf(n:Nat):madeCells #[.bool false] n=Array.replicate n (.bool false):=by
 apply Array.ext_getElem?
 intro j;simp only[madeCells,Array.getElem?_map]
 by_cases hj:j<n
 ·simp[hj,Nat.mod_one]
 ·simp[hj]
def Zlh (w:World)(bs bc:Nat)(t:List VN)(R:Option ((Nat→Bool) × (Nat→Bool)))(k:Nat)(wr:World):Prop :=
 ∃sc:(Nat→Bool) × (Nat→Bool),Ext w wr∧ZaU wr bs 127 129 sc.1∧ZaU wr bc 4 t.length sc.2∧Zca (t.drop k) k sc=R
def Zg2 (i:Nat):List Int→(Nat→Bool)→Option (Nat→Bool)
 | [],c=>some c
 | k :: r,c=>match Ze7 i k c with
   | none=>none
   | some c'=>Zg2 i r c'
def Zpt (r:List VN)(k:Nat)(seen:Nat→Bool):Option (Nat→Bool)→Option ((Nat→Bool) × (Nat→Bool))
 | none=>none
 | some c=>Zca r k (seen,c)
def Zlg (w:World)(bs bc:Nat)(n:Nat)(seen:Nat→Bool)(i:Nat)(l r:Int)(S:Option (Nat→Bool))(m:Nat)(wr:World):Prop :=
 ∃c:Nat→Bool,Ext w wr∧ZaU wr bs 127 129 seen∧ZaU wr bc 4 n c∧Zg2 i ([l,r].drop m) c=S
theorem ZlE{t:List VN}(w:World)(b o cap:Nat)(h:Zag w b o t)(eM:0<t.length)(fN:t.length≤255) :
  Calls Tryz.prog 33 #[.slice (some ⟨b,o,none⟩) t.length cap] w fun e w'=>e= .returned (.int .i64 (Zae t))∧Ext w w':=by
 have iO:∀w:World,(Instr.makeSlice 40 (.int .i64 t.length) (.int .i64 t.length)).run Tryz.prog w= .ok (.slice (some ⟨w.heap.size,0,none⟩) t.length t.length) (w.alloc (.cells (madeCells #[.bool false] t.length) 4)) :=
  fun w=>run_make_row' (P:=Tryz.prog) 40 4 (.bool false) 1 Tryz.underlying40 ZhQ rfl .i64 .i64 t.length (by omega) (by omega) w
 have h1:((t.length:Int) ==0)=false:=by simp;intro e;simp[e]at eM
 have h2:decide ((255:Int)<t.length)=false:=ZrH (by omega);have h3:¬ (255:Int)<t.length:=by omega
 obtain⟨R,hR⟩:∃R,Zca t 0 (fun _=>false,fun _=>false)=R:=⟨_,rfl⟩
 have jw:Hid (Zae t=Zqg t.length R):=Zrr (by
   unfold Zae;rw[if_neg (by omega),hR])
 go_enter Tryz.func33,Tryz.ntmps33
 go_wp2_with fail;have wj:=(ZeZ w _ 127 129 Zke w.heap.size rfl).ext (((Ext.refl _).alloc (.cells (madeCells #[.bool false] t.length) 4)));have nk:=ZeZ (w.alloc (.cells Tryz.zeroCells127 127)) _ 4 t.length (Zmf _) (w.heap.size+1) (by simp);have aW:Ext w ((w.alloc (.cells Tryz.zeroCells127 127)).alloc (.cells (madeCells #[.bool false] t.length) 4)):=((Ext.refl w).alloc _).alloc _;have aY:Hid (Zlh w w.heap.size (w.heap.size+1) t R 0 ((w.alloc (.cells Tryz.zeroCells127 127)).alloc (.cells (madeCells #[.bool false] t.length) 4))):=Zrr ⟨_,aW,wj,nk,hR⟩;clear wj nk hR;generalize (w.alloc (.cells Tryz.zeroCells127 127)).alloc (.cells (madeCells #[.bool false] t.length) 4)=w0 at *
 go_loopw [24] (fun i wr=>∃k:Nat,k≤t.length∧i= .int .i64 k∧Hid (Zlh w w.heap.size (w.heap.size+1) t R k wr))
  (fun i _=>t.length - (intOf i).toNat)
 case atStart=>exact⟨0,Nat.zero_le _,rfl,aY⟩
 case round =>
  clear aY;obtain⟨k,hk,rfl,hI⟩:=hrel;obtain⟨sc,hX,hS,hC,bM⟩:=hI.out;clear hI
  by_cases aD:k<t.length
  ·obtain⟨n0,n1,n2⟩:=(h.ext hX).node aD
   rw[List.drop_eq_getElem_cons aD]at bM;generalize t[k]=x at *;obtain⟨xl,xr,xv⟩:=x;simp only at n0 n1 n2;have aC:=Zrz wr (.cells #[.int .i64 xl,.int .i64 xr,.int .i64 xv] 78);have aK:Ext wr (wr.alloc (.cells #[.int .i64 xl,.int .i64 xr,.int .i64 xv] 78)):=(Ext.refl wr).alloc _;have tQ:=hX.size;replace bM:=Zrr bM;replace hS:=Zrr hS;replace hC:=Zrr hC;replace aC:=Zrr aC;replace aK:=Zrr aK;go_wp2_with fail;generalize wr.alloc (.cells #[.int .i64 xl,.int .i64 xr,.int .i64 xv] 78)=w1 at *;obtain⟨b0,b1,b2⟩:=Za5 aC.out
   try go_wp2_with fail
   refine(Zbu ⟨xl,xr,xv⟩ w1).mono ?_;rintro e w2 ⟨rfl,aO⟩;have kr:=aK.out.trans aO;have c0:=aO.cell b0;have c1:=aO.cell b1;have c2:=aO.cell b2;have bB:=Zrr (hS.out.ext kr);have cL:=Zrr (hC.out.ext kr);have jc:=Zrr (hX.trans kr);clear b0 b1 b2 n0 n1 n2;unfold Zca Zcc at bM
   cases aI:Zai ⟨xl,xr,xv⟩
   ·rw[aI]at bM
    by_cases nz:xv=0
    ·subst nz
     obtain⟨S,vz⟩:∃S,Zg2 k [xl,xr] sc.2=S:=⟨_,rfl⟩
     have ef:Hid (Zpt (t.drop (k+1)) (k+1) sc.1 S=R):=Zrr (by
       rw[←bM.out,←vz];simp only[Zg2]
       cases Ze7 k xl sc.2 with
       | none=>simp[Zpt]
       | some c=>cases hkc:Ze7 k xr c <;> simp[Zpt,hkc])
     have og:Hid (Zlg w w.heap.size (w.heap.size+1) t.length sc.1 k xl xr S 0 w2):=Zrr ⟨sc.2,jc.out,bB.out,cL.out,vz⟩;clear vz bM hS hC aC aK aO kr;have ix0:∀w,(Instr.index 128 (.agg #[.int .i64 xl,.int .i64 xr]) (.int .i64 0)).run Tryz.prog w= .ok (.int .i64 xl) w:=fun _=>by kernel_rfl
     have ix1:∀w,(Instr.index 128 (.agg #[.int .i64 xl,.int .i64 xr]) (.int .i64 1)).run Tryz.prog w= .ok (.int .i64 xr) w:=fun _=>by kernel_rfl
     go_wp2_with fail
     go_loopw [46] (fun i wi=>∃m:Nat,m≤2∧i= .int .i64 m∧Hid (Zlg w w.heap.size (w.heap.size+1) t.length sc.1 k xl xr S m wi))
      (fun i _=>2 - (intOf i).toNat)
     case atStart=>exact⟨0,by omega,rfl,og⟩
     case round =>
      clear og jc bB cL;obtain⟨m,hm,rfl,hJ⟩:=hrel;obtain⟨ci,qT,qS,oK,dE⟩:=hJ.out;clear hJ;obtain rfl|rfl|rfl:m=0∨m=1∨m=2:=by omega
      ·-- 0
       simp only[List.drop_zero,Zg2,Ze7]at dE
       by_cases km:xl<0
       ·rw[if_pos (.inl km)]at dE
        go_wp2_with fail;go_ret;refine⟨?_,qT⟩;rw[jw.out,←ef.out,←dE];rfl
       ·by_cases eE:(k:Int)≤xl
        ·rw[if_pos (.inr (.inl eE))]at dE
         have dn:decide (xl<0)=false:=ZrH km;have dg:decide ((k:Int)≤xl)=true:=ZrI eE;go_wp2_with fail;go_ret;refine⟨?_,qT⟩;rw[jw.out,←ef.out,←dE];rfl
        ·obtain⟨kn,jY⟩:∃n:Nat,xl=n:=⟨xl.toNat,by omega⟩
         subst jY;obtain⟨s1,s2⟩:=oK.cell (j:=kn) (by omega);have dn:decide ((kn:Int)<0)=false:=ZrH km;have dg:decide ((k:Int)≤kn)=false:=ZrH eE;have g1:(0:Int)≤kn:=by omega
         have g2:(kn:Int)<t.length:=by omega
         replace oK:=Zrr oK;replace qS:=Zrr qS
         cases ky:ci kn
         ·rw[if_neg (by simp[ky];omega)]at dE
          rw[ky]at s1;replace dE:=Zrr dE;go_wp2_with fail;go_roundw
          case rel=>exact⟨0+1,by omega,by go_num,Zrr ⟨Zbr ci kn,qT.setCell (by simp) _,qS.out.other (by simp) _ _,oK.out.set kn,by simpa [Zg2,Ze7] using dE.out⟩⟩
          case measure=>simp[intOf]
         ·rw[if_pos (by simp[ky])]at dE
          rw[ky]at s1;replace dE:=Zrr dE;go_wp2_with fail;go_ret;refine⟨?_,qT⟩;rw[jw.out,←ef.out,←dE.out];rfl
      ·-- 1
       simp only[List.drop_succ_cons,List.drop_zero,Zg2,Ze7]at dE
       by_cases km:xr<0
       ·rw[if_pos (.inl km)]at dE
        go_wp2_with fail;go_ret;refine⟨?_,qT⟩;rw[jw.out,←ef.out,←dE];rfl
       ·by_cases eE:(k:Int)≤xr
        ·rw[if_pos (.inr (.inl eE))]at dE
         have dn:decide (xr<0)=false:=ZrH km;have dg:decide ((k:Int)≤xr)=true:=ZrI eE;go_wp2_with fail;go_ret;refine⟨?_,qT⟩;rw[jw.out,←ef.out,←dE];rfl
        ·obtain⟨kn,jY⟩:∃n:Nat,xr=n:=⟨xr.toNat,by omega⟩
         subst jY;obtain⟨s1,s2⟩:=oK.cell (j:=kn) (by omega);have dn:decide ((kn:Int)<0)=false:=ZrH km;have dg:decide ((k:Int)≤kn)=false:=ZrH eE;have g1:(0:Int)≤kn:=by omega
         have g2:(kn:Int)<t.length:=by omega
         replace oK:=Zrr oK;replace qS:=Zrr qS
         cases ky:ci kn
         ·rw[if_neg (by simp[ky];omega)]at dE
          rw[ky]at s1;replace dE:=Zrr dE;go_wp2_with fail;go_roundw
          case rel=>exact⟨1+1,by omega,by go_num,Zrr ⟨Zbr ci kn,qT.setCell (by simp) _,qS.out.other (by simp) _ _,oK.out.set kn,by simpa [Zg2,Ze7] using dE.out⟩⟩
          case measure=>simp[intOf]
         ·rw[if_pos (by simp[ky])]at dE
          rw[ky]at s1;replace dE:=Zrr dE;go_wp2_with fail;go_ret;refine⟨?_,qT⟩;rw[jw.out,←ef.out,←dE.out];rfl
      ·simp only[List.drop_succ_cons,List.drop_zero,List.drop_nil,Zg2]at dE
       replace oK:=Zrr oK;replace qS:=Zrr qS;go_wp2_with fail;go_roundw
       case rel=>exact⟨k+1,by omega,by go_num,Zrr ⟨(sc.1,ci),qT,qS.out,oK.out,by rw[←ef.out,←dE];rfl⟩⟩
       case measure=>simp[intOf];omega
    ·have hvb:(xv !=0)=true:=by simpa using nz
     have xi:R=none:=by rw[←bM.out];simp[nz]
     go_wp2_with fail;go_ret;refine⟨?_,jc.out⟩;rw[jw.out,xi];rfl
   ·have hv:=aI
    simp only[Zai,ZrK,ZrN]at hv;obtain⟨_,qD,gA⟩:=hv;obtain⟨vn,rfl⟩:∃n:Nat,xv=n:=⟨xv.toNat,by omega⟩;obtain⟨s1,s2⟩:=bB.out.cell (j:=vn) (by omega);rw[aI]at bM;have g1:(0:Int)≤vn:=by omega
    have g2:(vn:Int)<129:=by omega
    cases cI:sc.1 vn
    ·rw[cI]at s1
     go_wp2_with fail;go_roundw
     case rel=>exact⟨k+1,by omega,by go_num,Zrr ⟨(Zbr sc.1 vn,sc.2),jc.out.setCell (by simp) _,bB.out.set vn,cL.out.other (by simp) _ _,by have:=bM.out;simpa [cI] using this⟩⟩
     case measure=>simp[intOf];omega
    ·rw[cI]at s1
     go_wp2_with fail;go_ret;refine⟨?_,jc.out⟩;have:=bM.out;simp[cI]at this;rw[jw.out,←this];rfl
  ·obtain rfl:k=t.length:=by omega
   have lS:R=some sc:=by rw[←bM,List.drop_length];rfl
   obtain⟨n',cR⟩:∃n',t.length=n'+1:=⟨t.length - 1,by omega⟩;have fA:IntKind.i64.wrap ((t.length:Int) - 1)=(n':Int):=by rw[cR];rw[IntWalk.i64_in _ (by omega)];omega
   have fE:(n':Int)≤t.length:=by omega
   have nM:(0:Int)≤n':=by omega
   replace hS:=Zrr hS;replace hC:=Zrr hC;replace lS:=Zrr lS;have aZ:Hid (Zae t=if (List.range n').all sc.2=true then 0 else 1):=Zrr (by rw[jw.out,lS.out];simp only[Zqg];rw[cR];rfl);clear bM;replace cR:=Zrr cR;go_wp2_with fail
   go_loopw [73] (fun i wi=>∃k:Nat,k≤n'∧i= .int .i64 k∧wi=wr∧Hid (∀j,j<k→sc.2 j=true))
    (fun i _=>n' - (intOf i).toNat)
   case atStart=>exact⟨0,Nat.zero_le _,rfl,rfl,Zrr (fun j hj=>absurd hj (Nat.not_lt_zero _))⟩
   case round =>
    obtain⟨k,hk,rfl,rfl,az⟩:=hrel
    by_cases aD:k<n'
    ·obtain⟨s1,s2⟩:=hC.out.cell (j:=k) (by have:=cR.out;omega)
     have q1:(0:Int)≤k:=by omega
     have q2:(k:Int)<n':=by omega
     cases ky:sc.2 k
     ·rw[ky]at s1
      go_wp2_with fail;go_ret;refine⟨?_,hX⟩
      rw[aZ.out,if_neg (by
       intro hc;have:=List.all_eq_true.1 hc k (List.mem_range.2 aD);rw[ky]at this;cases this)]
      rfl
     ·rw[ky]at s1
      go_wp2_with fail;go_roundw
      case rel=>exact⟨k+1,by omega,by go_num,by first|rfl|trivial,Zrr (fun j hj=>by
       by_cases yu:j=k
       ·rw[yu];exact ky
       ·exact az.out j (by omega))⟩
      case measure=>simp[intOf];omega
    ·obtain rfl:k=n':=by omega
     go_wp2_with fail;go_ret;refine⟨?_,hX⟩;rw[aZ.out,if_pos (List.all_eq_true.2 fun j hj=>az.out j (List.mem_range.1 hj))]
     rfl
theorem ZbJ{t:List VN}(w:World)(ba:Option Addr)(cap:Nat)(h:t=[]∨∃b o,ba=some ⟨b,o,none⟩∧Zag w b o t) :
  Calls Tryz.prog 33 #[.slice ba t.length cap] w fun e w'=>e= .returned (.int .i64 (Zae t))∧Ext w w':=by
 by_cases hc:t.length=0∨255<t.length
 ·have:Zae t=1:=if_pos hc
  rw[this];exact ZlD w ba cap hc
 ·rcases h with rfl|⟨b,o,rfl,ht⟩
  ·simp at hc
  ·exact ZlE w b o cap ht (by omega) (by omega)
end Go.Proofs.YtemnmcfmabamcaaGreatDoor
namespace Go.Proofs.YtemnmcfmabamcaaGreatDoor
open Go Go.RowKit Go.Shelf
def Zht (f:Nat→Int)(i:Nat)(v:Int):Nat→Int:=fun j=>if j=i then v else f j
def ZdH (i:Nat)(x:VN)(f:Nat→Int):Nat→Int:=if Zai x=true then Zht f i (-1) else Zht (Zht (Zht f i (-1)) x.left.toNat i) x.right.toNat i
def ZdC:List VN→Nat→(Nat→Int)→(Nat→Int)
 | [],_,f=>f
 | x :: r,i,f=>ZdC r (i+1) (ZdH i x f)
def Zjj (t:List VN):Nat→Int:=ZdC t 0 (fun _=>0)
def Zga (up:Nat→Int):Nat→Nat→Nat→Nat
 | 0,a,_=>a
 | f+1,a,b=>if a=b then a else if a<b then Zga up f (up a).toNat b else Zga up f a (up b).toNat
def ZdB (t:List VN)(a b:Nat):Nat:=Zga (Zjj t) (t.length+t.length) a b
theorem Zcv{i:Nat}{k:Int}{c c':Nat→Bool}(h:Ze7 i k c=some c'):0≤k∧k<i∧c k.toNat=false∧c'=Zbr c k.toNat:=by
 unfold Ze7 at h
 split at h
 ·cases h
 ·rename_i hn
  simp only[ZrJ]at h;refine⟨by omega,by omega,?_,h.symm⟩
  cases hc:c k.toNat
  ·rfl
  ·exact absurd (.inr (.inr hc)) hn
theorem Zdy{i:Nat}{x:VN}{sc sc':(Nat→Bool) × (Nat→Bool)}(h:Zcc i x sc=some sc') :
  (Zai x=true∧sc'.2=sc.2)∨(Zai x=false∧x.var=0∧0≤x.left∧x.left<i∧0≤x.right∧x.right<i∧x.left≠x.right∧sc'.2=Zbr (Zbr sc.2 x.left.toNat) x.right.toNat):=by
 unfold Zcc at h
 split at h
 ·rename_i hl
  split at h
  ·cases h
  ·simp only[ZrJ]at h;exact .inl ⟨hl,by rw[←h]⟩
 ·rename_i hl
  split at h
  ·cases h
  ·rename_i hv
   split at h
   ·cases h
   ·rename_i c hc
    split at h
    ·cases h
    ·rename_i c' gE
     simp only[ZrJ]at h;obtain⟨a1,a2,a3,a4⟩:=Zcv hc;obtain⟨b1,b2,b3,b4⟩:=Zcv gE;refine .inr ⟨by simpa using hl,by simpa using hv,a1,a2,b1,b2,fun e=>?_,by rw[←h,b4,a4]⟩;rw[a4,e]at b3;simp[Zbr]at b3
theorem Zdw:∀(t:List VN) (i:Nat) (sc sc':(Nat→Bool) × (Nat→Bool)),Zca t i sc=some sc' →
  ∀k (hk:k<t.length),Zai t[k]=false→t[k].var=0∧0≤t[k].left∧t[k].left<(i+k:Nat)∧0≤t[k].right∧t[k].right<(i+k:Nat)∧t[k].left≠t[k].right
 | [],_,_,_,_,k,hk,_=>absurd hk (Nat.not_lt_zero _)
 | x :: r,i,sc,sc',h,k,hk,hl=>by
   unfold Zca at h
   split at h
   ·cases h
   ·rename_i mm h1
    cases k with
    | zero =>
      rcases Zdy h1 with ⟨h2,_⟩|⟨_,h3,h4,h5,h6,h7,h8,_⟩
      ·simp only[List.getElem_cons_zero]at hl;rw[hl]at h2;cases h2
      ·exact⟨h3,h4,by simpa using h5,h6,by simpa using h7,h8⟩
    | succ k =>
      have:=Zdw r (i+1) mm sc' h k (by simpa using hk) (by simpa using hl);simp only[List.getElem_cons_succ];rw[show i+(k+1)=i+1+k from by omega];exact this
theorem Zam{t:List VN}(h:Zae t=0):0<t.length∧t.length≤255∧∃sc,Zca t 0 (fun _=>false,fun _=>false)=some sc∧∀j,j+1<t.length→sc.2 j=true:=by
 unfold Zae at h
 split at h
 ·cases h
 ·rename_i hl
  refine⟨by omega,by omega,?_⟩;unfold Zqg at h
  split at h
  ·cases h
  ·rename_i sc hs
   refine⟨sc,hs,fun j hj=>?_⟩
   split at h
   ·rename_i ha
    exact List.all_eq_true.1 ha j (List.mem_range.2 (by omega))
   ·cases h
theorem ZoW:∀(t:List VN) (i:Nat) (sc sc':(Nat→Bool) × (Nat→Bool)) (f:Nat→Int),Zca t i sc=some sc'→(∀j,sc.2 j=true→(j:Int)<f j∧f j<i) →
  ∀j,sc'.2 j=true→(j:Int)<ZdC t i f j∧ZdC t i f j<(i+t.length:Nat)
 | [],i,sc,sc',f,h,hi,j,hj=>by
   simp only[Zca,ZrJ]at h;subst h;simpa [ZdC] using hi j hj
 | x :: r,i,sc,sc',f,h,hi,j,hj=>by
   unfold Zca at h
   split at h
   ·cases h
   ·rename_i mm h1
    have:=ZoW r (i+1) mm sc' (ZdH i x f) h (fun k hk=>?_) j hj
    ·simp only[ZdC,ZrP]
     rw[show i+(r.length+1)=i+1+r.length from by omega];exact this
    ·unfold ZdH
     rcases Zdy h1 with ⟨h2,h3⟩|⟨h2,h3,h4,h5,h6,h7,h8,h9⟩
     ·rw[if_pos h2]
      rw[h3]at hk;have:=hi k hk;have aJ:k≠i:=by omega
      simp only[Zht,if_neg aJ];omega
     ·rw[if_neg (by simp[h2])]
      rw[h9]at hk;simp only[Zht]
      by_cases hr:k=x.right.toNat
      ·rw[if_pos hr];omega
      ·rw[if_neg hr]
       by_cases hl:k=x.left.toNat
       ·rw[if_pos hl];omega
       ·rw[if_neg hl]
        have bW:sc.2 k=true:=by simpa [Zbr,hr,hl] using hk
        have:=hi k bW;rw[if_neg (by omega)];omega
theorem Zna{t:List VN}(h:Zae t=0){j:Nat}(hj:j+1<t.length):(j:Int)<Zjj t j∧Zjj t j<t.length:=by
 obtain⟨_,_,sc,hs,hc⟩:=Zam h;have:=ZoW t 0 _ sc (fun _=>0) hs (fun j hj=>by cases hj) j (hc j hj);simpa [Zjj] using this
def ZbR (w:World)(b:Nat)(t:TypeId)(n:Nat)(f:Nat→Int):Prop:=∃c,w.heap[b]? =some (.cells c t (0,0))∧c.size=n∧∀j,j<n→∃v,c[j]? =some (.int .i64 v)∧v=f j
theorem ZbR.cell{w:World}{b:Nat}{t:TypeId}{n:Nat}{f:Nat→Int}(h:ZbR w b t n f){j:Nat}(hj:j<n):w.cell? ⟨b,j,none⟩=some (.int .i64 (f j))∧w.frozen? ⟨b,j,none⟩=false:=by
 obtain⟨c,h1,h2,h3⟩:=h;obtain⟨v,h4,rfl⟩:=h3 j hj;simp[World.cell?,World.frozen?,h1,h4]
theorem ZbR.same{w w':World}{b:Nat}{t:TypeId}{n:Nat}{f:Nat→Int}(h:ZbR w b t n f)(hs:w'.heap[b]? =w.heap[b]?):ZbR w' b t n f:=by
 obtain⟨c,h1,h2,h3⟩:=h;exact⟨c,hs.trans h1,h2,h3⟩
theorem ZbR.lt{w:World}{b:Nat}{t:TypeId}{n:Nat}{f:Nat→Int}(h:ZbR w b t n f):b<w.heap.size:=by
 obtain⟨c,h1,h2,h3⟩:=h;exact(Zrv h1).1
theorem ZbR.ext{w w':World}{b:Nat}{t:TypeId}{n:Nat}{f:Nat→Int}(h:ZbR w b t n f)(hs:Ext w w'):ZbR w' b t n f:=h.same (hs.below.block b h.lt)
theorem ZbR.set{w:World}{b:Nat}{t:TypeId}{n:Nat}{f:Nat→Int}(h:ZbR w b t n f)(i:Nat)(v:Int):ZbR (w.setCell ⟨b,i,none⟩ (.int .i64 v)) b t n (Zht f i v):=by
 obtain⟨c,h1,h2,h3⟩:=h;refine⟨_,Zaj h1 i _,by simpa using h2,fun j hj=>?_⟩;rw[Array.getElem?_setIfInBounds]
 by_cases iD:i=j
 ·subst iD
  rw[if_pos rfl,if_pos (by omega)];exact⟨v,rfl,by simp[Zht]⟩
 ·rw[if_neg iD]
  obtain⟨u,h4,h5⟩:=h3 j hj;exact⟨u,h4,by simp[Zht,Ne.symm iD,h5]⟩
theorem ZmQ(f:Nat→Int)(a b:Nat)(v:Int):Zht (Zht f a v) b v=Zht (Zht f b v) a v:=by
 funext j
 simp only[Zht]
 by_cases h1:j=a <;> by_cases h2:j=b <;> simp[h1,h2]
theorem ZpB(w:World)(n:Nat)(t:TypeId)(ad:Nat)(ha:ad=w.heap.size):ZbR (w.alloc (.cells (madeCells #[.int .i64 0] n) t)) ad t n (fun _=>0):=by
 refine⟨_,Zaq w _ ad ha,by simp[madeCells],fun j hj=>⟨0,?_,rfl⟩⟩;simp[madeCells,hj,Nat.mod_one]
theorem Ze5:(Tryz.prog.info? 3).map (fun i=>(i.zero,i.size,i.bytes))=some (some (.int .i64 0),1,8):=by kernel_rfl
def Zll (w:World)(g:Nat)(t:List VN)(k:Nat)(wr:World):Prop:=∃f,Ext w wr∧ZbR wr g 3 t.length f∧ZdC (t.drop k) k f=Zjj t
theorem ZiX{t:List VN}(w:World)(b o cap:Nat)(h:Zag w b o t)(hc:Zae t=0) :
  Calls Tryz.prog 129 #[.slice (some ⟨b,o,none⟩) t.length cap] w fun e w'=>∃g,w.heap.size≤g∧e= .returned (.slice (some ⟨g,0,none⟩) t.length t.length)∧ZbR w' g 3 t.length (Zjj t)∧Ext w w':=by
 have iO:∀w:World,(Instr.makeSlice 76 (.int .i64 t.length) (.int .i64 t.length)).run Tryz.prog w= .ok (.slice (some ⟨w.heap.size,0,none⟩) t.length t.length) (w.alloc (.cells (madeCells #[.int .i64 0] t.length) 3)) :=
  fun w=>run_make_row' (P:=Tryz.prog) 76 3 (.int .i64 0) 8 Tryz.underlying76 Ze5 rfl .i64 .i64 t.length (by have:=(Zam hc).2.1;omega) (by have:=(Zam hc).2.1;omega) w
 obtain⟨eM,fN,sc,bM,_⟩:=Zam hc;have fD:=Zrr (Zdw t 0 _ sc bM);have hq:=ZbJ w (some ⟨b,o,none⟩) cap (.inr ⟨b,o,rfl,h⟩);rw[hc]at hq;clear bM hc
 go_enter Tryz.func129,Tryz.ntmps129
 go_wp2_with fail;refine hq.mono ?_;rintro e w1 ⟨rfl,aK⟩;clear hq;go_wp2_with fail;have aW:Ext w (w1.alloc (.cells (madeCells #[.int .i64 0] t.length) 3)):=aK.alloc _;have aY:Hid (Zll w w1.heap.size t 0 (w1.alloc (.cells (madeCells #[.int .i64 0] t.length) 3))):=Zrr ⟨_,aW,ZpB w1 t.length _ _ rfl,rfl⟩;have eE:=aK.size;clear aW aK;generalize w1.alloc (.cells (madeCells #[.int .i64 0] t.length) 3)=w2 at *;generalize w1.heap.size=g at *
 go_loopw [14] (fun i wr=>∃k:Nat,k≤t.length∧i= .int .i64 k∧Hid (Zll w g t k wr))
  (fun i _=>t.length - (intOf i).toNat)
 case atStart=>exact⟨0,Nat.zero_le _,rfl,aY⟩
 case round =>
  clear aY;obtain⟨k,hk,rfl,hI⟩:=hrel;obtain⟨f,hX,hG,tM⟩:=hI.out;clear hI
  by_cases aD:k<t.length
  ·obtain⟨n0,n1,n2⟩:=(h.ext hX).node aD
   have gD:=fD.out k aD;rw[List.drop_eq_getElem_cons aD]at tM;simp only[ZdC]at tM;generalize t[k]=x at *;obtain⟨xl,xr,xv⟩:=x;simp only[Nat.zero_add]at n0 n1 n2 gD;have aC:=Zrz wr (.cells #[.int .i64 xl,.int .i64 xr,.int .i64 xv] 78);have aK:Ext wr (wr.alloc (.cells #[.int .i64 xl,.int .i64 xr,.int .i64 xv] 78)):=(Ext.refl wr).alloc _;have tQ:=hX.size;have ev:=hG.lt;obtain⟨s1,s2⟩:=hG.cell aD;replace hG:=Zrr hG;replace aC:=Zrr aC;replace aK:=Zrr aK;replace tM:=Zrr tM;have s1':=aK.out.cell s1;have s2':(wr.alloc (.cells #[.int .i64 xl,.int .i64 xr,.int .i64 xv] 78)).frozen? ⟨g,k,none⟩=false:=(World.frozen?_of_block (a:=⟨g,k,none⟩) (aK.out.below.block _ ev)).trans s2;go_wp2_with fail;have aO:Ext w ((wr.setCell ⟨g,k,none⟩ (.int .i64 (-1))).alloc (.cells #[.int .i64 xl,.int .i64 xr,.int .i64 xv] 78)):=(hX.setCell (by simpa using eE) _).alloc _;have hG2:=(hG.out.set k (-1)).ext ((Ext.refl _).alloc (.cells #[.int .i64 xl,.int .i64 xr,.int .i64 xv] 78));have aL:((wr.setCell ⟨g,k,none⟩ (.int .i64 (-1))).alloc (.cells #[.int .i64 xl,.int .i64 xr,.int .i64 xv] 78)).heap[wr.heap.size]? =some (.cells #[.int .i64 xl,.int .i64 xr,.int .i64 xv] 78 (0,0)):=Zaq _ _ _ (by simp);clear s1 s2 s1' s2' aC aK n0 n1 n2;generalize (wr.setCell ⟨g,k,none⟩ (.int .i64 (-1))).alloc (.cells #[.int .i64 xl,.int .i64 xr,.int .i64 xv] 78)=w3 at *;obtain⟨b0,b1,b2⟩:=Za5 aL
   try go_wp2_with fail
   refine(Zbu ⟨xl,xr,xv⟩ w3).mono ?_;rintro e w4 ⟨rfl,gz⟩;have tf:=Zrr (hG2.ext gz);have yE:=Zrr (aO.trans gz);have c0:=gz.cell b0;have c1:=gz.cell b1;have aw:=(Zrx _ _ c0);clear b0 b1 b2 hG2 aO gz aL
   cases aI:Zai ⟨xl,xr,xv⟩
   ·obtain⟨_,l0,l1,r0,r1,aJ⟩:=gD aI
    clear gD;obtain⟨ln,rfl⟩:∃n:Nat,xl=n:=⟨xl.toNat,by omega⟩;obtain⟨rn,rfl⟩:∃n:Nat,xr=n:=⟨xr.toNat,by omega⟩;have q1:(ln:Int)<t.length:=by omega
    have q2:(rn:Int)<t.length:=by omega
    obtain⟨s1,s2⟩:=tf.out.cell (j:=ln) (by omega);obtain⟨s3,s4⟩:=tf.out.cell (j:=rn) (by omega);have hgw:g≠wr.heap.size:=by omega
    have hln:¬ (ln=rn):=by omega
    have hrn:¬ (rn=ln):=by omega
    go_wp2_with fail
    go_region_law (fail)
    all_goals
     go_wp2_with fail;go_roundw
     case rel=>exact⟨k+1,by omega,by go_num,Zrr ⟨_,((yE.out.drew).setCell (by simpa using eE) _).setCell (by simpa using eE) _,((tf.out.same (w':=w4.drew) rfl).set _ _).set _ _,by
      rw[←tM.out];unfold ZdH;rw[if_neg (by simp[aI])]
      first|rfl|(rw[ZmQ];rfl)⟩⟩
     case measure=>simp[intOf];omega
   ·go_wp2_with fail
    go_roundw
    case rel=>exact⟨k+1,by omega,by go_num,Zrr ⟨_,yE.out,tf.out,by rw[←tM.out];unfold ZdH;rw[if_pos aI]⟩⟩
    case measure=>simp[intOf];omega
  ·obtain rfl:k=t.length:=by omega
   rw[List.drop_length]at tM;go_wp2_with fail;go_ret;exact⟨g,eE,rfl,by rw[←tM];exact hG,hX⟩
theorem Zg6{t:List VN}(w:World)(b o cap:Nat)(h:Zag w b o t)(hc:Zae t=0)(x y:Nat)(hx:x<t.length)(hy:y<t.length) :
  Calls Tryz.prog 104 #[.slice (some ⟨b,o,none⟩) t.length cap,.int .i64 x,.int .i64 y] w fun e w'=>e= .returned (.int .i64 (ZdB t x y))∧Ext w w':=by
 have hq:=ZiX w b o cap h hc;have fN:=(Zam hc).2.1
 go_enter Tryz.func104,Tryz.ntmps104
 go_wp2_with fail;refine hq.mono ?_;rintro e w1 ⟨g,hg,rfl,hG,hX⟩;have p1:decide ((x:Int)<0)=false:=ZrH (by omega);have p2:decide ((t.length:Int)≤x)=false:=ZrH (by omega);have p3:decide ((y:Int)<0)=false:=ZrH (by omega);have p4:decide ((t.length:Int)≤y)=false:=ZrH (by omega);clear hq;replace hG:=Zrr hG;go_wp2_with fail
 go_loopw [1,2] (fun i j wr=>∃a b f:Nat,a<t.length∧b<t.length∧i= .int .i64 a∧j= .int .i64 b∧wr=w1∧Hid (Zga (Zjj t) f a b=ZdB t x y∧t.length+t.length≤f+a+b))
  (fun i j _=>t.length+t.length - (intOf i).toNat - (intOf j).toNat)
 case atStart=>exact⟨x,y,t.length+t.length,hx,hy,rfl,rfl,rfl,Zrr ⟨rfl,by omega⟩⟩
 case round =>
  obtain⟨a,b',f,ha,hb,rfl,rfl,rfl,hm⟩:=hrel;clear p1 p2 p3 p4
  by_cases bT:a=b'
  ·subst bT
   have hd:((a:Int) !=a)=false:=by simp
   have hr:a=ZdB t x y:=by
    rw[←hm.out.1]
    cases f <;> simp[Zga]
   go_wp2_with fail;go_ret;exact⟨by rw[←hr];rfl,hX⟩
  ·have hd:((a:Int) !=b')=true:=by simp;omega
   obtain⟨f,rfl⟩:∃f',f=f'+1:=⟨f - 1,by have:=hm.out.2;omega⟩;have ie:=hm.out.1;have eY:=hm.out.2;simp only[Zga,if_neg bT]at ie;have q1:(0:Int)≤a:=by omega
   have q2:(0:Int)≤b':=by omega
   have q3:(a:Int)<t.length:=by omega
   have q4:(b':Int)<t.length:=by omega
   by_cases aD:a<b'
   ·rw[if_pos aD]at ie
    replace ie:=Zrr ie;have jo:decide ((a:Int)<b')=true:=ZrI (by omega);obtain⟨s1,_⟩:=hG.out.cell ha;obtain⟨u1,u2⟩:=Zna hc (j:=a) (by omega);go_wp2_with fail;go_roundw
    case rel=>exact⟨(Zjj t a).toNat,b',f,by omega,hb,by congr 1;omega,rfl,by first|rfl|trivial,Zrr ⟨ie.out,by omega⟩⟩
    case measure=>simp[intOf];omega
   ·rw[if_neg aD]at ie
    replace ie:=Zrr ie;have jo:decide ((a:Int)<b')=false:=ZrH (by omega);obtain⟨s1,_⟩:=hG.out.cell hb;obtain⟨u1,u2⟩:=Zna hc (j:=b') (by omega);go_wp2_with fail;go_roundw
    case rel=>exact⟨a,(Zjj t b').toNat,f,ha,by omega,rfl,by congr 1;omega,by first|rfl|trivial,Zrr ⟨ie.out,by omega⟩⟩
    case measure=>simp[intOf];omega
end Go.Proofs.YtemnmcfmabamcaaGreatDoor
namespace Go.Proofs.YtemnmcfmabamcaaGreatDoor
open Go Go.RowKit
def Zgb (s:St)(a b:Int):Option Nat:=if Zae s.tree=0∧0≤a∧a<s.tree.length∧0≤b∧b<s.tree.length then some (ZdB s.tree a.toNat b.toNat) else none
def Zdf (g:St→Nat→Option (Nat × St))(s:St)(a pl:Nat):Option (List (Nat × Nat) × St) :=
 match s.nodes[a]? with
 | none=>none
 | some n=>if n.pl=pl then some (n.el,s) else
   match s.tree[pl]? with
   | none=>none
   | some x=>match Zgb s n.pl x.left with
     | none=>none
     | some m=>if (m:Int)=x.left then
        match g s a with
        | none=>none
        | some (b,s1)=>some ([(a,1),(b,0)],s1)
       else some ([(1,a)],s)
end Go.Proofs.YtemnmcfmabamcaaGreatDoor
namespace Go.Proofs.YtemnmcfmabamcaaGreatDoor
open Go Go.RowKit
def orF (nf:St→Nat→Option (Nat × St))(af:St→Nat→Nat→Option (Nat × St))(s:St)(a b:Nat):Option (Nat × St) :=
 match nf s a with
 | none=>none
 | some (x,s1)=>match nf s1 b with
   | none=>none
   | some (y,s2)=>match af s2 x y with
     | none=>none
     | some (z,s3)=>nf s3 z
def ZcS (of:St→Nat→Nat→Option (Nat × St)):List (Nat × Nat)→St→List (Nat × Nat)→List Nat→Option (St × List (Nat × Nat) × List Nat)
 | [],s,m,u=>some (s,m,u)
 | p :: r,s,m,u=>match asc m p.2 with
   | some q=>match of s q p.1 with
     | none=>none
     | some (z,s1)=>ZcS of r s1 ((p.2,z) :: m) u
   | none=>ZcS of r s ((p.2,p.1) :: m) (u++[p.2])
def ZdA (m:List (Nat × Nat))(a:Nat):Nat:=match asc m a with
 | some v=>v
 | none=>0
def ZkJ (of:St→Nat→Nat→Option (Nat × St))(s:St)(pl:Nat)(l:List (Nat × Nat)):Option (Nat × St) :=
 match (if l.length≤1048576 then ZcS of l s [] [] else none) with
 | none=>none
 | some (s1,m,u) =>
   match u with
   | [x]=>some (x,s1)
   | [x,y]=>if x<2∧y<2 then some (ZdA m 1,s1) else ZbB s1 pl [(ZdA m x,x),(ZdA m y,y)]
   | u=>ZbB s1 pl (u.map fun x=>(ZdA m x,x))
end Go.Proofs.YtemnmcfmabamcaaGreatDoor
namespace Go.Proofs.YtemnmcfmabamcaaGreatDoor
open Go Go.RowKit
def ZbS (af:St→Nat→Nat→Option (Nat × St))(p:Nat × Nat):List (Nat × Nat)→St→List (Nat × Nat)→Option (List (Nat × Nat) × St)
 | [],s,out=>some (out,s)
 | q :: r,s,out=>match af s p.1 q.1 with
   | none=>none
   | some (pr,s1)=>if pr=0 then ZbS af p r s1 out else
     match af s1 p.2 q.2 with
     | none=>none
     | some (su,s2)=>ZbS af p r s2 (out++[(pr,su)])
def Zcd (af:St→Nat→Nat→Option (Nat × St))(right:List (Nat × Nat)):List (Nat × Nat)→St→List (Nat × Nat)→Option (List (Nat × Nat) × St)
 | [],s,out=>some (out,s)
 | p :: r,s,out=>match ZbS af p right s out with
   | none=>none
   | some (iJ,s1)=>Zcd af right r s1 iJ
def Zld (s:St)(a:Nat):Int:=match s.nodes[a]? with
 | some n=>n.pl
 | none=>-1
def ZhC (nf:St→Nat→Option (Nat × St))(af:St→Nat→Nat→Option (Nat × St))(s:St)(a b:Nat):Option (Nat × St) :=
 match Zgb s (Zld s a) (Zld s b) with
 | none=>none
 | some pl=>match Zdf nf s b pl with
   | none=>none
   | some (right,s1)=>match Zdf nf s1 a pl with
     | none=>none
     | some (left,s2)=>match Zcd af right left s2 [] with
       | none=>none
       | some (l,s3)=>match ZkJ (orF nf af) s3 pl l with
         | none=>none
         | some (c,s4)=>some (c,{ s4 with ands:=((a,b),c) :: s4.ands })
def Zgi (nf:St→Nat→Option (Nat × St))(af:St→Nat→Nat→Option (Nat × St))(s:St)(a b:Nat):Option (Nat × St) :=
 if a=0∨a=b then some (a,s) else if a=1 then some (b,s) else
  match nf s a with
  | none=>none
  | some (na,s1)=>if na=b then some (0,s1) else
    match asc s1.ands (a,b) with
    | some c=>some (c,s1)
    | none=>ZhC nf af s1 a b
def Zlc:Nat→St→Nat→Nat→Option (Nat × St)
 | 0,_,_,_=>none
 | f+1,s,a,b=>if b<a then Zgi (Zof f) (Zlc f) s b a else Zgi (Zof f) (Zlc f) s a b
end Go.Proofs.YtemnmcfmabamcaaGreatDoor
namespace Go.Proofs.YtemnmcfmabamcaaGreatDoor
open Go Go.RowKit Go.Shelf
def Znx (l:List (Nat × Nat))(B:Zar)(s':St)(w:World)(e:Ending)(w':World):Prop:=∃v,e= .returned v∧Zcp w' v l∧∃B',Rep B' s' w'∧Stp [] B w B' w'
theorem Rep.treeAt{B:Zar}{s:St}{w:World}(h:Rep B s w):Zag w B.tb 0 s.tree:=fun _ _ hj=>h.tree.cell hj
theorem ZiU{w:World}(pl lit:Int)(v:Value)(a b:Int):Ext w (w.alloc (.cells #[.int .i64 pl,.int .i64 lit,v,.int .u64 a,.int .u64 b] Zbd)) ∧
  (w.alloc (.cells #[.int .i64 pl,.int .i64 lit,v,.int .u64 a,.int .u64 b] Zbd)).heap[w.heap.size]? =some (.cells #[.int .i64 pl,.int .i64 lit,v,.int .u64 a,.int .u64 b] Zbd (0,0)) :=
 ⟨(Ext.refl w).alloc _,Zrz w _⟩
theorem ZbY{s:St}{a b:Int}{m:Nat}(h:Zgb s a b=some m):Zae s.tree=0∧∃x y:Nat,a=x∧b=y∧x<s.tree.length∧y<s.tree.length∧m=ZdB s.tree x y:=by
 unfold Zgb at h
 split at h
 ·rename_i hc
  obtain⟨h0,h1,h2,h3,h4⟩:=hc;simp only[ZrJ]at h;exact⟨h0,a.toNat,b.toNat,by omega,by omega,by omega,by omega,h.symm⟩
 ·cases h
theorem Zjf{B:Zar}{s:St}{w:World}{a pl:Nat}{n:Zac}(h:Rep B s w)(hn:s.nodes[a]? =some n)(hp:n.pl=pl) :
  Calls Tryz.prog 105 #[.pointer (some ⟨B.sb,0,none⟩),.int .i64 a,.int .i64 pl] w (Znx n.el B s w):=by
 obtain⟨cap,_,_,cn,_,_,c5⟩:=h.cells;obtain⟨v,hv,jr,n0,n1,n2,n3,n4⟩:=h.node hn;have uE:a<s.nodes.length:=(Zrw hn).1;have ni:(0:Int)≤a:=by omega
 have lU:(a:Int)<s.nodes.length:=by omega
 rw[hp]at n0;obtain⟨ba,cp,rfl,gA⟩:=hv;obtain⟨aW,aC⟩:=ZiU (w:=w) pl n.lit (.slice ba n.el.length cp) (lo n.le) (hi n.le);unfold Zbd at aW aC;replace gA:=Zrr gA
 go_enter Tryz.func105,Tryz.ntmps105
 go_wp2_with fail;generalize w.alloc (.cells #[.int .i64 pl,.int .i64 n.lit,.slice ba n.el.length cp,.int .u64 (lo n.le),.int .u64 (hi n.le)] 101)=w1 at *;obtain⟨b0,b1,b2,b3,b4,_⟩:=Zbt aC
 try go_wp2_with fail
 go_ret;refine⟨_,rfl,Zcp.same ⟨ba,cp,rfl,gA.out⟩ (fun b c fz hb=>aW.below.block b (Zrv hb).1),B,h.below aW.below,Stp.of_below aW.below⟩
theorem Zje{g:St→Nat→Option (Nat × St)}(ih:ZcA g){B:Zar}{s s1:St}{w:World}{a pl m b:Nat}{n:Zac}{x:VN}(h:Rep B s w)(hn:s.nodes[a]? =some n)(hp:n.pl≠pl)(hx:s.tree[pl]? =some x)
  (hm:Zgb s n.pl x.left=some m) (jM:(m:Int)=x.left) (hg:g s a=some (b,s1)) :
  Calls Tryz.prog 105 #[.pointer (some ⟨B.sb,0,none⟩),.int .i64 a,.int .i64 pl] w (Znx [(a,1),(b,0)] B s1 w):=by
 obtain⟨cap,ct,_,cn,_,_,c5⟩:=h.cells;obtain⟨v,hv,jr,n0,n1,n2,n3,n4⟩:=h.node hn;have uE:a<s.nodes.length:=(Zrw hn).1;have ni:(0:Int)≤a:=by omega
 have lU:(a:Int)<s.nodes.length:=by omega
 have hpi:pl<s.tree.length:=(Zrw hx).1;have kq:(0:Int)≤pl:=by omega
 have gG:(pl:Int)<s.tree.length:=by omega
 have zX:((n.pl:Int) ==pl)=false:=by simpa using hp
 obtain⟨t0,t1,t2⟩:=h.treeAt.node hpi;have tR:s.tree[pl]=x:=(Zrw hx).2;rw[tR,Nat.zero_add]at t0;obtain⟨hc,p,q,e1,e2,gH,bX,rfl⟩:=ZbY hm;rw[e2]at jM t0;rw[e1]at n0 zX;have hmq:ZdB s.tree p q=q:=by omega
 obtain⟨ba,cp,rfl,gA⟩:=hv;obtain⟨aW,aC⟩:=ZiU (w:=w) p n.lit (.slice ba n.el.length cp) (lo n.le) (hi n.le);unfold Zbd at aW aC;have fy:=h.treeAt;replace fy:=Zrr fy;replace hc:=Zrr hc;clear gA jr t1 t2 hm jM hx tR
 go_enter Tryz.func105,Tryz.ntmps105
 go_wp2_with fail;generalize w.alloc (.cells #[.int .i64 p,.int .i64 n.lit,.slice ba n.el.length cp,.int .u64 (lo n.le),.int .u64 (hi n.le)] 101)=w1 at *;obtain⟨b0,b1,b2,b3,b4,_⟩:=Zbt aC
 try go_wp2_with fail
 have F1:∀w':World,Ext w1 w'→w'.cell? ⟨w.heap.size,0,none⟩=some (.int .i64 p)∧w'.cell? ⟨B.sb,0,none⟩=some (.slice (some ⟨B.tb,0,none⟩) s.tree.length B.tc)∧w'.cell? ⟨B.tb,pl*3,none⟩=some (.int .i64 q) :=
  fun w' fI=>⟨fI.cell b0,fI.cell (aW.cell ct),fI.cell (aW.cell t0)⟩
 replace F1:=Zrr F1;replace hn:=Zrr hn;replace hg:=Zrr hg
 (refine Zaf (by kernel_rfl) (by kernel_rfl) ?_
  repeat (refine wpQuiet_step (fun K hK=>?_)
          go_simp
          first
           | (refine hK _ ?_;clear hK K)
           | (replace hK:=Zrr hK
              apply Exists.intro
              refine⟨fun wq hq=>?_,hK.out _ ?_⟩
              ·(obtain⟨f1,f2,f3⟩:=F1.out wq hq)
               go_simp
               first
                | done
                | rfl
                | exact⟨rfl,rfl⟩
                | (refine(Zg6 wq B.tb 0 B.tc (fy.out.ext (aW.trans hq)) hc.out p q gH bX).mono ?_;rintro e w' ⟨rfl,hb⟩;exact⟨rfl,hq.trans hb⟩)
              clear hK K))
  refine wpQuiet_nil ?_)
 intro w2 bS;have bA:=h.below (aW.trans bS).below;have bB:Stp [] B w B w2:=Stp.of_below (aW.trans bS).below;have zb:((ZdB s.tree p q:Int) ==q)=true:=by rw[hmq];simp
 have dU:=ih B s s1 w2 a b bA hg.out;clear F1 b0 b1 b2 b3 b4 n0 n1 n2 n3 n4 aC;go_wp2_with fail;refine dU.mono ?_;rintro e w3 ⟨rfl,B3,cX,fL⟩;replace cX:=Zrr cX;go_wp2_with fail;go_ret;have aR:Ext w3 (w3.alloc (.cells #[.int .i64 a,.int .i64 1,.int .i64 b,.int .i64 0] 130)):=(Ext.refl w3).alloc _;exact⟨_,rfl,⟨_,_,rfl,.inr ⟨_,0,rfl,_,_,Zrz w3 _,fun j u hj=>by rw[Nat.zero_add];simpa [ZaO] using hj⟩⟩,B3,cX.out.below aR.below,(bB.then fL).then (Stp.of_below aR.below)⟩
theorem Zia{B:Zar}{s:St}{w:World}{a pl m:Nat}{n:Zac}{x:VN}(h:Rep B s w)(hn:s.nodes[a]? =some n)(hp:n.pl≠pl)(hx:s.tree[pl]? =some x)
  (hm:Zgb s n.pl x.left=some m) (jM:¬ (m:Int)=x.left) :
  Calls Tryz.prog 105 #[.pointer (some ⟨B.sb,0,none⟩),.int .i64 a,.int .i64 pl] w (Znx [(1,a)] B s w):=by
 obtain⟨cap,ct,_,cn,_,_,c5⟩:=h.cells;obtain⟨v,hv,jr,n0,n1,n2,n3,n4⟩:=h.node hn;have uE:a<s.nodes.length:=(Zrw hn).1;have ni:(0:Int)≤a:=by omega
 have lU:(a:Int)<s.nodes.length:=by omega
 have hpi:pl<s.tree.length:=(Zrw hx).1;have kq:(0:Int)≤pl:=by omega
 have gG:(pl:Int)<s.tree.length:=by omega
 have zX:((n.pl:Int) ==pl)=false:=by simpa using hp
 obtain⟨t0,t1,t2⟩:=h.treeAt.node hpi;have tR:s.tree[pl]=x:=(Zrw hx).2;rw[tR,Nat.zero_add]at t0;obtain⟨hc,p,q,e1,e2,gH,bX,rfl⟩:=ZbY hm;rw[e2]at jM t0;rw[e1]at n0 zX;have hmq:¬ (ZdB s.tree p q=q):=by omega
 obtain⟨ba,cp,rfl,gA⟩:=hv;obtain⟨aW,aC⟩:=ZiU (w:=w) p n.lit (.slice ba n.el.length cp) (lo n.le) (hi n.le);unfold Zbd at aW aC;have fy:=h.treeAt;replace fy:=Zrr fy;replace hc:=Zrr hc;clear gA jr t1 t2 hm jM hx tR
 go_enter Tryz.func105,Tryz.ntmps105
 go_wp2_with fail;generalize w.alloc (.cells #[.int .i64 p,.int .i64 n.lit,.slice ba n.el.length cp,.int .u64 (lo n.le),.int .u64 (hi n.le)] 101)=w1 at *;obtain⟨b0,b1,b2,b3,b4,_⟩:=Zbt aC
 try go_wp2_with fail
 have F1:∀w':World,Ext w1 w'→w'.cell? ⟨w.heap.size,0,none⟩=some (.int .i64 p)∧w'.cell? ⟨B.sb,0,none⟩=some (.slice (some ⟨B.tb,0,none⟩) s.tree.length B.tc)∧w'.cell? ⟨B.tb,pl*3,none⟩=some (.int .i64 q) :=
  fun w' fI=>⟨fI.cell b0,fI.cell (aW.cell ct),fI.cell (aW.cell t0)⟩
 replace F1:=Zrr F1;replace hn:=Zrr hn
 (refine Zaf (by kernel_rfl) (by kernel_rfl) ?_
  repeat (refine wpQuiet_step (fun K hK=>?_)
          go_simp
          first
           | (refine hK _ ?_;clear hK K)
           | (replace hK:=Zrr hK
              apply Exists.intro
              refine⟨fun wq hq=>?_,hK.out _ ?_⟩
              ·(obtain⟨f1,f2,f3⟩:=F1.out wq hq)
               go_simp
               first
                | done
                | rfl
                | exact⟨rfl,rfl⟩
                | (refine(Zg6 wq B.tb 0 B.tc (fy.out.ext (aW.trans hq)) hc.out p q gH bX).mono ?_;rintro e w' ⟨rfl,hb⟩;exact⟨rfl,hq.trans hb⟩)
              clear hK K))
  refine wpQuiet_nil ?_)
 intro w3 bS;have bA:=h.below (aW.trans bS).below;have bB:Stp [] B w B w3:=Stp.of_below (aW.trans bS).below;have zb:((ZdB s.tree p q:Int) ==q)=false:=by simp;omega
 clear F1 b0 b1 b2 b3 b4 n0 n1 n2 n3 n4 aC;replace bA:=Zrr bA;go_wp2_with fail;go_ret;have aR:Ext w3 (w3.alloc (.cells #[.int .i64 1,.int .i64 a] 130)):=(Ext.refl w3).alloc _;exact⟨_,rfl,⟨_,_,rfl,.inr ⟨_,0,rfl,_,_,Zrz w3 _,fun j u hj=>by rw[Nat.zero_add];simpa [ZaO] using hj⟩⟩,B,bA.out.below aR.below,bB.then (Stp.of_below aR.below)⟩
theorem ZgB{g:St→Nat→Option (Nat × St)}(ih:ZcA g){B:Zar}{s s1:St}{w:World}{a pl:Nat}{l:List (Nat × Nat)}(h:Rep B s w)(he:Zdf g s a pl=some (l,s1)) :
  Calls Tryz.prog 105 #[.pointer (some ⟨B.sb,0,none⟩),.int .i64 a,.int .i64 pl] w (Znx l B s1 w):=by
 unfold Zdf at he
 split at he
 ·cases he
 ·rename_i n hn
  split at he
  ·rename_i hp
   simp only[ZrJ,Prod.mk.injEq]at he;obtain⟨rfl,rfl⟩:=he;exact Zjf h hn hp
  ·rename_i hp
   split at he
   ·cases he
   ·rename_i x hx
    split at he
    ·cases he
    ·rename_i m hm
     split at he
     ·rename_i jM
      split at he
      ·cases he
      ·rename_i b s2 hg
       simp only[ZrJ,Prod.mk.injEq]at he;obtain⟨rfl,rfl⟩:=he;exact Zje ih h hn hp hx hm jM hg
     ·rename_i jM
      simp only[ZrJ,Prod.mk.injEq]at he;obtain⟨rfl,rfl⟩:=he;exact Zia h hn hp hx hm jM
end Go.Proofs.YtemnmcfmabamcaaGreatDoor
namespace Go.Proofs.YtemnmcfmabamcaaGreatDoor
open Go Go.RowKit Go.Shelf
def Zeh (g:St→Nat→Nat→Option (Nat × St)):Prop:=∀(B:Zar) (s s':St) (w:World) (a b r:Nat),Rep B s w→g s a b=some (r,s') →
 Calls Tryz.prog 74 #[.pointer (some ⟨B.sb,0,none⟩),.int .i64 a,.int .i64 b] w (ZaF [] (.int .i64 r) B s' w)
def Znw (g:St→Nat→Nat→Option (Nat × St)):Prop:=∀(B:Zar) (s s':St) (w:World) (a b r:Nat),Rep B s w→g s a b=some (r,s') →
 Calls Tryz.prog 76 #[.pointer (some ⟨B.sb,0,none⟩),.int .i64 a,.int .i64 b] w (ZaF [] (.int .i64 r) B s' w)
theorem Zmq{nf:St→Nat→Option (Nat × St)}{af:St→Nat→Nat→Option (Nat × St)}(hn:ZcA nf)(ha:Zeh af):Znw (orF nf af):=by
 intro B s s' w a b r h he;unfold orF at he
 split at he
 ·cases he
 ·rename_i x s1 h1
  split at he
  ·cases he
  ·rename_i y s2 h2
   split at he
   ·cases he
   ·rename_i z s3 h3
    have c1:=hn B s s1 w a x h h1;replace h1:=Zrr h1;replace h2:=Zrr h2;replace h3:=Zrr h3;replace he:=Zrr he
    go_enter Tryz.func76,Tryz.ntmps76
    go_wp2_with fail;refine c1.mono ?_;rintro e w1 ⟨rfl,B1,aQ,cC⟩;have c2:=hn B1 s1 s2 w1 b y aQ h2.out;rw[cC.sb]at c2;replace aQ:=Zrr aQ;go_wp2_with fail;refine c2.mono ?_;rintro e w2 ⟨rfl,B2,bA,bB⟩;have c3:=ha B2 s2 s3 w2 x y z bA h3.out;rw[bB.sb,cC.sb]at c3;replace bA:=Zrr bA;go_wp2_with fail;refine c3.mono ?_;rintro e w3 ⟨rfl,B3,cX,fL⟩;have c4:=hn B3 s3 s' w3 z r cX he.out;rw[fL.sb,bB.sb,cC.sb]at c4;replace cX:=Zrr cX;go_wp2_with fail;refine c4.mono ?_;rintro e w4 ⟨rfl,B4,gY,dK⟩;replace gY:=Zrr gY;go_wp2_with fail;go_ret;exact⟨rfl,B4,gY.out,((cC.then bB).then fL).then dK⟩
end Go.Proofs.YtemnmcfmabamcaaGreatDoor
