import Derived.Test.YtmnjakejhbpkoaaGreatDoorVNew
set_option linter.unusedSimpArgs false
set_option linter.unusedVariables false
set_option maxRecDepth 100000
set_option maxHeartbeats 8000000
namespace Go.Proofs.YtmnjakejhbpkoaaGreatDoor
open Go Go.RowKit Go.Shelf
def Zc2 (f:Nat→Nat)(i:Nat):Nat→Nat:=fun j=>if j=i then f j+1 else f j
def ZlW (i:Nat)(x:VN):Bool:=decide (x.var≠0) || decide (x.left<0) || decide ((i:Int)≤x.left) || decide (x.right<0) || decide ((i:Int)≤x.right) || decide (x.left=x.right)
def Zhn (i:Nat)(x:VN)(c:(Nat→Nat) × (Nat→Bool)):Option ((Nat→Nat) × (Nat→Bool)) :=
 if Zaj x=true then (if c.2 x.var.toNat=true then none else some (c.1,Zbs c.2 x.var.toNat))
 else if ZlW i x=true then none else some (Zc2 (Zc2 c.1 x.left.toNat) x.right.toNat,c.2)
def ZdD:List VN→Nat→((Nat→Nat) × (Nat→Bool))→Option ((Nat→Nat) × (Nat→Bool))
 | [],_,c=>some c
 | x :: r,i,c=>match Zhn i x c with
   | none=>none
   | some c'=>ZdD r (i+1) c'
def Zn2 (n:Nat):Option ((Nat→Nat) × (Nat→Bool))→Int
 | none=>1
 | some c=>if (List.range (n - 1)).all (fun j=>decide (c.1 j=1))=true then 0 else 1
def ZmA (t:List VN):Int:=if t.length=0 then 1 else Zn2 t.length (ZdD t 0 (fun _=>0,fun _=>false))
def Zcq (w:World)(b:Nat)(n:Nat)(f:Nat→Nat):Prop:=∃c,w.heap[b]? =some (.cells c 3 (0,0))∧c.size=n∧∀j,j<n→c[j]? =some (.int .i64 (f j:Nat))
theorem Zcq.cell{w:World}{b n:Nat}{f:Nat→Nat}(h:Zcq w b n f){j:Nat}(hj:j<n):w.cell? ⟨b,j,none⟩=some (.int .i64 (f j:Nat))∧w.frozen? ⟨b,j,none⟩=false:=by
 obtain⟨c,h1,h2,h3⟩:=h;simp[World.cell?,World.frozen?,h1,h3 j hj]
theorem Zcq.same{w w':World}{b n:Nat}{f:Nat→Nat}(h:Zcq w b n f)(hs:w'.heap[b]? =w.heap[b]?):Zcq w' b n f:=by
 obtain⟨c,h1,h2,h3⟩:=h;exact⟨c,hs.trans h1,h2,h3⟩
theorem Zcq.lt{w:World}{b n:Nat}{f:Nat→Nat}(h:Zcq w b n f):b<w.heap.size:=by
 obtain⟨c,h1,h2,h3⟩:=h;exact(Zpi h1).1
theorem Zcq.ext{w w':World}{b n:Nat}{f:Nat→Nat}(h:Zcq w b n f)(hs:Ext w w'):Zcq w' b n f:=h.same (hs.below.block b h.lt)
theorem Zcq.inc{w:World}{b n:Nat}{f:Nat→Nat}(h:Zcq w b n f)(i:Nat)(z:Int)(hz:z=(f i+1:Nat)):Zcq (w.setCell ⟨b,i,none⟩ (.int .i64 z)) b n (Zc2 f i):=by
 obtain⟨c,h1,h2,h3⟩:=h;subst hz;refine⟨_,Zag h1 i _,by simpa using h2,fun j hj=>?_⟩;rw[Array.getElem?_setIfInBounds]
 by_cases cN:i=j
 ·subst cN
  rw[if_pos rfl,if_pos (by omega)];simp[Zc2]
 ·rw[if_neg cN,h3 j hj]
  simp[Zc2,Ne.symm cN]
theorem Zcq.other{w:World}{b n:Nat}{f:Nat→Nat}(h:Zcq w b n f){b':Nat}(hb:b≠b')(i:Nat)(v:Value):Zcq (w.setCell ⟨b',i,none⟩ v) b n f :=
 h.same (Below.heap_setCell _ _ _ b hb)
theorem Zoe(w:World)(n:Nat)(ad:Nat)(ha:ad=w.heap.size):Zcq (w.alloc (.cells (madeCells #[.int .i64 0] n) 3)) ad n (fun _=>0):=by
 refine⟨_,Zal w _ ad ha,by simp[madeCells],fun j hj=>?_⟩;simp[madeCells,hj,Nat.mod_one]
theorem Ze7(x:VN)(w:World):Calls Tryz.prog 147 #[.agg #[.int .i64 x.left,.int .i64 x.right,.int .i64 x.var]] w fun e w'=>e= .returned (.bool (Zaj x))∧Ext w w':=by
 obtain⟨l,r,v⟩:=x
 show Calls Tryz.prog 147 #[.agg #[.int .i64 l,.int .i64 r,.int .i64 v]] w fun e w'=>e= .returned (.bool (Zaj ⟨l,r,v⟩))∧Ext w w'
 have aK:=Zpm w (.cells #[.int .i64 l,.int .i64 r,.int .i64 v] 106);have aV:Ext w (w.alloc (.cells #[.int .i64 l,.int .i64 r,.int .i64 v] 106)):=(Ext.refl w).alloc _;obtain⟨b0,b1,b2⟩:=Zl6 aK;have hl:Zaj ⟨l,r,v⟩=(decide (l= -1) && decide (r= -1) && (decide (1≤v) && decide (v≤128))):=rfl
 by_cases h1:l= -1
 ·by_cases h2:r= -1
  ·by_cases h3:1≤v
   ·by_cases h4:v≤128
    ·have hf:Hid (Zaj ⟨l,r,v⟩=true):=Zpe (by rw[hl];simp[h1,h2,h3,h4])
     have d1:((l:Int) == -1)=true:=by simp[h1]
     have d2:((r:Int) == -1)=true:=by simp[h2]
     have d3:decide (v≥1)=true:=Zpv h3;have d4:decide (v≤128)=true:=Zpv h4;clear hl h1 h2 aK
     go_enter Tryz.func147,Tryz.ntmps147
     go_wp2_with fail;go_ret;exact⟨by rw[hf.out] <;> rfl,aV⟩
    ·have hf:Hid (Zaj ⟨l,r,v⟩=false):=Zpe (by rw[hl];simp[h4])
     have d1:((l:Int) == -1)=true:=by simp[h1]
     have d2:((r:Int) == -1)=true:=by simp[h2]
     have d3:decide (v≥1)=true:=Zpv h3;have d4:decide (v≤128)=false:=Zpu h4;clear hl h1 h2 aK
     go_enter Tryz.func147,Tryz.ntmps147
     go_wp2_with fail;go_ret;exact⟨by rw[hf.out] <;> rfl,aV⟩
   ·have hf:Hid (Zaj ⟨l,r,v⟩=false):=Zpe (by rw[hl];simp[h3])
    have d1:((l:Int) == -1)=true:=by simp[h1]
    have d2:((r:Int) == -1)=true:=by simp[h2]
    have d3:decide (v≥1)=false:=Zpu h3;clear hl h1 h2 aK
    go_enter Tryz.func147,Tryz.ntmps147
    go_wp2_with fail;go_ret;exact⟨by rw[hf.out] <;> rfl,aV⟩
  ·have hf:Hid (Zaj ⟨l,r,v⟩=false):=Zpe (by rw[hl];simp[h2])
   have d1:((l:Int) == -1)=true:=by simp[h1]
   have d2:((r:Int) == -1)=false:=by simp[h2]
   clear hl h1 aK
   go_enter Tryz.func147,Tryz.ntmps147
   go_wp2_with fail;go_ret;exact⟨by rw[hf.out] <;> rfl,aV⟩
 ·have hf:Hid (Zaj ⟨l,r,v⟩=false):=Zpe (by rw[hl];simp[h1])
  have d1:((l:Int) == -1)=false:=by simp[h1]
  clear hl aK
  go_enter Tryz.func147,Tryz.ntmps147
  go_wp2_with fail;go_ret;exact⟨by rw[hf.out] <;> rfl,aV⟩
def Zhy (w:World)(bp bs:Nat)(t:List VN)(R:Option ((Nat→Nat) × (Nat→Bool)))(k:Nat)(wr:World):Prop :=
 ∃c:(Nat→Nat) × (Nat→Bool),Ext w wr∧Zcq wr bp t.length c.1∧Zan wr bs 195 129 c.2∧ZdD (t.drop k) k c=R∧∀j,c.1 j≤2*k
end Go.Proofs.YtmnjakejhbpkoaaGreatDoor
namespace Go.Proofs.YtmnjakejhbpkoaaGreatDoor
open Go Go.RowKit Go.Shelf
theorem ZmB{i:Nat}{x:VN}{r:List VN}{c:(Nat→Nat) × (Nat→Bool)}(hl:Zaj x=false)(hb:ZlW i x=true):ZdD (x :: r) i c=none:=by
 unfold ZdD Zhn;simp[hl,hb]
theorem ZfR{i:Nat}{x:VN}{r:List VN}{c:(Nat→Nat) × (Nat→Bool)}(hl:Zaj x=false)(hb:ZlW i x=false):ZdD (x :: r) i c=ZdD r (i+1) (Zc2 (Zc2 c.1 x.left.toNat) x.right.toNat,c.2):=by
 rw[ZdD,Zhn];simp[hl,hb]
theorem Zhh{i:Nat}{x:VN}{r:List VN}{c:(Nat→Nat) × (Nat→Bool)}(hl:Zaj x=true)(hs:c.2 x.var.toNat=false):ZdD (x :: r) i c=ZdD r (i+1) (c.1,Zbs c.2 x.var.toNat):=by
 rw[ZdD,Zhn];simp[hl,hs]
theorem Zlu{i:Nat}{x:VN}{r:List VN}{c:(Nat→Nat) × (Nat→Bool)}(hl:Zaj x=true)(hs:c.2 x.var.toNat=true):ZdD (x :: r) i c=none:=by
 unfold ZdD Zhn;simp[hl,hs]
theorem ZjQ(w:World)(ba:Option Addr)(cap:Nat):Calls Tryz.prog 77 #[.slice ba 0 cap] w fun e w'=>e= .returned (.int .i64 1)∧Ext w w':=by
 go_enter Tryz.func77,Tryz.ntmps77
 go_wp2_with fail;go_ret;exact⟨rfl,Ext.refl w⟩
theorem ZjR{t:List VN}(w:World)(b o cap:Nat)(h:Zam w b o t)(dT:0<t.length)(fJ:t.length≤5864062014805) :
  Calls Tryz.prog 77 #[.slice (some ⟨b,o,none⟩) t.length cap] w fun e w'=>e= .returned (.int .i64 (ZmA t))∧Ext w w':=by
 have dD:∀w:World,(Instr.makeSlice 45 (.int .i64 t.length) (.int .i64 t.length)).run Tryz.prog w= .ok (.slice (some ⟨w.heap.size,0,none⟩) t.length t.length) (w.alloc (.cells (madeCells #[.int .i64 0] t.length) 3)) :=
  fun w=>run_make_row' (P:=Tryz.prog) 45 3 (.int .i64 0) 8 Tryz.underlying45 Zgg rfl .i64 .i64 t.length (by omega) (by omega) w
 have h1:((t.length:Int) ==0)=false:=by simp;intro e;simp[e]at dT
 obtain⟨R,hR⟩:∃R,ZdD t 0 (fun _=>0,fun _=>false)=R:=⟨_,rfl⟩
 have gj:Hid (ZmA t=Zn2 t.length R):=Zpe (by
   unfold ZmA;rw[if_neg (by omega),hR])
 go_enter Tryz.func77,Tryz.ntmps77
 go_wp2_with fail;have fQ:=(Zoe w t.length w.heap.size rfl).ext ((Ext.refl _).alloc (.cells Tryz.zeroCells195 195));have eI:=Zcb (w.alloc (.cells (madeCells #[.int .i64 0] t.length) 3)) _ 195 129 Zi9 (w.heap.size+1) (by simp);have aV:Ext w ((w.alloc (.cells (madeCells #[.int .i64 0] t.length) 3)).alloc (.cells Tryz.zeroCells195 195)):=((Ext.refl w).alloc _).alloc _;have aQ:Hid (Zhy w w.heap.size (w.heap.size+1) t R 0 ((w.alloc (.cells (madeCells #[.int .i64 0] t.length) 3)).alloc (.cells Tryz.zeroCells195 195))):=Zpe ⟨_,aV,fQ,eI,hR,fun _=>ZpD _⟩;clear eI fQ hR;generalize (w.alloc (.cells (madeCells #[.int .i64 0] t.length) 3)).alloc (.cells Tryz.zeroCells195 195)=w0 at *
 go_loopw [5] (fun i wr=>∃k:Nat,k≤t.length∧i= .int .i64 k∧Hid (Zhy w w.heap.size (w.heap.size+1) t R k wr))
  (fun i _=>t.length - (intOf i).toNat)
 case atStart=>exact⟨0,Nat.zero_le _,rfl,aQ⟩
 case round =>
  clear aQ;obtain⟨k,hk,rfl,hI⟩:=hrel;obtain⟨c,hX,hC,hS,au,je⟩:=hI.out;clear hI
  by_cases aE:k<t.length
  ·obtain⟨n0,n1,n2⟩:=(h.ext hX).node aE
   rw[List.drop_eq_getElem_cons aE]at au;generalize t[k]=x at *;obtain⟨xl,xr,xv⟩:=x;simp only at n0 n1 n2;have aK:=Zpm wr (.cells #[.int .i64 xl,.int .i64 xr,.int .i64 xv] 106);have aC:Ext wr (wr.alloc (.cells #[.int .i64 xl,.int .i64 xr,.int .i64 xv] 106)):=(Ext.refl wr).alloc _;have nq:=hX.size;have jr:=hS.lt;replace au:=Zpe au;replace hS:=Zpe hS;replace hC:=Zpe hC;replace aK:=Zpe aK;replace aC:=Zpe aC;replace je:=Zpe je;go_wp2_with fail;generalize wr.alloc (.cells #[.int .i64 xl,.int .i64 xr,.int .i64 xv] 106)=w1 at *;obtain⟨b0,b1,b2⟩:=Zl6 aK.out
   try go_wp2_with fail
   refine(Ze7 ⟨xl,xr,xv⟩ w1).mono ?_;rintro e w2 ⟨rfl,aF⟩;have dv:=aC.out.trans aF;have c0:=aF.cell b0;have c1:=aF.cell b1;have c2:=aF.cell b2;have aZ:=Zpe (hS.out.ext dv);have cv:=Zpe (hC.out.ext dv);have fw:=Zpe (hX.trans dv);have di:=(aF.below.block _ (Zpi aK.out).1).trans aK.out;replace di:=Zpe di;clear b0 b1 b2 n0 n1 n2 hS hC hX
   cases aI:Zaj ⟨xl,xr,xv⟩
   ·cases bQ:ZlW k ⟨xl,xr,xv⟩
    ·have hb:=bQ
     simp only[ZlW,Bool.or_eq_false_iff,decide_eq_false_iff_not]at hb;obtain⟨⟨⟨⟨⟨hv,aS⟩,aP⟩,aa⟩,bF⟩,aj⟩:=hb;have cm:Hid (ZdD (t.drop (k+1)) (k+1) (Zc2 (Zc2 c.1 xl.toNat) xr.toNat,c.2)=R):=Zpe (by rw[←au.out,ZfR aI bQ]);obtain⟨ln,rfl⟩:∃n:Nat,xl=n:=⟨xl.toNat,by omega⟩;obtain⟨rn,rfl⟩:∃n:Nat,xr=n:=⟨xr.toNat,by omega⟩;have d0:((xv:Int) !=0)=false:=by simpa using hv
     have d1:decide ((ln:Int)<0)=false:=Zpu aS;have d2:decide ((ln:Int)≥k)=false:=Zpu (by omega);have d3:decide ((rn:Int)<0)=false:=Zpu aa;have d4:decide ((rn:Int)≥k)=false:=Zpu (by omega);have d5:((ln:Int) ==rn)=false:=by simpa using aj
     have dV:ln≠rn:=fun e=>aj (by rw[e])
     have d6:decide (k≤ln)=false:=Zpu (by omega);have d7:decide (k≤rn)=false:=Zpu (by omega);have d8:(ln ==rn)=false:=by simpa using dV
     have g1:(0:Int)≤ln:=by omega
     have g2:(ln:Int)<t.length:=by omega
     have g3:(0:Int)≤rn:=by omega
     have g4:(rn:Int)<t.length:=by omega
     obtain⟨s1,s2⟩:=cv.out.cell (j:=ln) (by omega);have q1:=je.out ln;have q2:=je.out rn;have oG:=cv.out.inc ln ((c.1 ln:Nat)+1) (by omega);obtain⟨s3,s4⟩:=oG.cell (j:=rn) (by omega);have oq:Zc2 c.1 ln rn=c.1 rn:=by simp[Zc2,Ne.symm dV]
     rw[oq]at s3;have hCb:=oG.inc rn ((c.1 rn:Nat)+1) (by rw[oq];omega);have aH:wr.heap.size≠w.heap.size:=by omega
     have rd:=(Below.heap_setCell w2 ⟨w.heap.size,ln,none⟩ (.int .i64 ((c.1 ln:Nat)+1)) wr.heap.size aH).trans di.out;obtain⟨e0,e1,e2⟩:=Zl6 rd;have nF:=(fw.out.setCell (ZpD _) (p:=⟨w.heap.size,ln,none⟩) (.int .i64 ((c.1 ln:Nat)+1))).setCell (ZpD _) (p:=⟨w.heap.size,rn,none⟩) (.int .i64 ((c.1 rn:Nat)+1));have bd:=(aZ.out.other (b':=w.heap.size) (by omega) ln (.int .i64 ((c.1 ln:Nat)+1))).other (b':=w.heap.size) (by omega) rn (.int .i64 ((c.1 rn:Nat)+1))
     have rj:∀j,(Zc2 (Zc2 c.1 ln) rn) j≤2*(k+1):=fun j=>by
      have:=je.out j;simp only[Zc2]
      split <;> split <;> omega
     have aM:Hid (Zhy w w.heap.size (w.heap.size+1) t R (k+1) ((w2.setCell ⟨w.heap.size,ln,none⟩ (.int .i64 ((c.1 ln:Nat)+1))).setCell ⟨w.heap.size,rn,none⟩ (.int .i64 ((c.1 rn:Nat)+1)))):=Zpe
      ⟨(Zc2 (Zc2 c.1 ln) rn,c.2),nF,hCb,bd,cm.out,rj⟩
     clear nF bd rj oG hCb rd oq au bQ aS aP aa bF aj hv;generalize c.1 ln=cl at *;generalize c.1 rn=cr at *;go_wp2_with fail;go_roundw
     case rel=>exact⟨k+1,by omega,by go_num,aM⟩
     case measure=>simp[intOf];omega
    ·have rN:Hid (R=none):=Zpe (by rw[←au.out,ZmB aI bQ])
     have fin:Hid (∀w':World,Ext w w'→(Ending.returned (.int .i64 1)=Ending.returned (.int .i64 (ZmA t))∧Ext w w')):=Zpe (fun w' hx=>⟨by rw[gj.out,rN.out];rfl,hx⟩)
     have hb:xv≠0∨xl<0∨(k:Int)≤xl∨xr<0∨(k:Int)≤xr∨xl=xr:=by
      simp only[ZlW,Bool.or_eq_true,ZpA]at bQ;omega
     clear bQ au
     by_cases hv:xv=0
     ·have d0:((xv:Int) !=0)=false:=by simp[hv]
      replace hv:=Zpe hv
      by_cases jw:xl<0
      ·have d1:decide (xl<0)=true:=Zpv jw
       go_wp2_with fail;go_ret;exact fin.out _ fw.out
      ·obtain⟨ln,rfl⟩:∃n:Nat,xl=n:=⟨xl.toNat,by omega⟩
       have d1:decide ((ln:Int)<0)=false:=Zpu jw
       by_cases jx:(k:Int)≤ln
       ·have d2:decide ((ln:Int)≥k)=true:=Zpv jx
        have d6:decide (k≤ln)=true:=Zpv (by omega);go_wp2_with fail;go_ret;exact fin.out _ fw.out
       ·have d2:decide ((ln:Int)≥k)=false:=Zpu (by omega)
        have d6:decide (k≤ln)=false:=Zpu (by omega)
        by_cases h3':xr<0
        ·have d3:decide (xr<0)=true:=Zpv h3'
         go_wp2_with fail;go_ret;exact fin.out _ fw.out
        ·obtain⟨rn,rfl⟩:∃n:Nat,xr=n:=⟨xr.toNat,by omega⟩
         have d3:decide ((rn:Int)<0)=false:=Zpu h3'
         by_cases nz:(k:Int)≤rn
         ·have d4:decide ((rn:Int)≥k)=true:=Zpv nz
          have d7:decide (k≤rn)=true:=Zpv (by omega);go_wp2_with fail;go_ret;exact fin.out _ fw.out
         ·have d4:decide ((rn:Int)≥k)=false:=Zpu (by omega)
          have d7:decide (k≤rn)=false:=Zpu (by omega);have dV:ln=rn:=by have:=hv.out;omega
          have d5:((ln:Int) ==rn)=true:=by simp[dV]
          have d8:(ln ==rn)=true:=by simp[dV]
          replace dV:=Zpe dV;go_wp2_with fail;go_ret;exact fin.out _ fw.out
     ·have d0:((xv:Int) !=0)=true:=by simpa using hv
      go_wp2_with fail;go_ret;exact fin.out _ fw.out
   ·have hv:=aI
    simp only[Zaj,Zpx,ZpA]at hv;obtain⟨_,bI,ap⟩:=hv;obtain⟨vn,rfl⟩:∃n:Nat,xv=n:=⟨xv.toNat,by omega⟩;obtain⟨s1,s2⟩:=aZ.out.cell (j:=vn) (by omega);have g1:(0:Int)≤vn:=by omega
    have g2:(vn:Int)<129:=by omega
    cases jU:c.2 vn
    ·rw[jU]at s1
     have cm:Hid (ZdD (t.drop (k+1)) (k+1) (c.1,Zbs c.2 vn)=R):=Zpe (by rw[←au.out,Zhh aI (by simpa using jU)];simp);go_wp2_with fail;go_roundw
     case rel=>exact⟨k+1,by omega,by go_num,Zpe ⟨(c.1,Zbs c.2 vn),fw.out.setCell (by simp) _,cv.out.other (by simp) _ _,aZ.out.set vn,cm.out,fun j=>by have:=je.out j;show c.1 j≤2*(k+1);omega⟩⟩
     case measure=>simp[intOf];omega
    ·rw[jU]at s1
     have rN:Hid (R=none):=Zpe (by rw[←au.out,Zlu aI (by simpa using jU)]);go_wp2_with fail;go_ret;exact⟨by rw[gj.out,rN.out];rfl,fw.out⟩
  ·obtain rfl:k=t.length:=by omega
   have oT:R=some c:=by rw[←au,List.drop_length];rfl
   obtain⟨n',bt⟩:∃n',t.length=n'+1:=⟨t.length - 1,by omega⟩;have bz:IntKind.i64.wrap ((t.length:Int) - 1)=(n':Int):=by rw[bt];rw[IntWalk.i64_in _ (by omega)];omega
   have nh:((t.length:Int) - 1)=(n':Int):=by rw[bt];omega
   replace hS:=Zpe hS;replace hC:=Zpe hC;replace je:=Zpe je;replace oT:=Zpe oT;have ac:Hid (ZmA t=if (List.range n').all (fun j=>decide (c.1 j=1))=true then 0 else 1):=Zpe (by rw[gj.out,oT.out];simp only[Zn2];rw[bt];rfl);clear au;replace bt:=Zpe bt;replace nh:=Zpe nh;replace bz:=Zpe bz;go_wp2_with fail
   go_loopw [7] (fun i wi=>∃k:Nat,k≤t.length∧i= .int .i64 k∧wi=wr∧Hid (∀j,j<k→j<n'→c.1 j=1))
    (fun i _=>t.length - (intOf i).toNat)
   case atStart=>exact⟨0,Nat.zero_le _,rfl,rfl,Zpe (fun j hj=>absurd hj (Nat.not_lt_zero _))⟩
   case round =>
    obtain⟨k,hk,rfl,rfl,aN⟩:=hrel
    by_cases aE:k<t.length
    ·obtain⟨s1,s2⟩:=hC.out.cell (j:=k) aE
     have q1:(0:Int)≤k:=by omega
     have q2:(k:Int)<t.length:=by omega
     by_cases iy:k<n'
     ·have dk:decide ((k:Int)<(t.length:Int) - 1)=true:=Zpv (by have:=bt.out;omega)
      by_cases eC:c.1 k=1
      ·have dc:(((c.1 k:Nat):Int) !=1)=false:=by simp[eC]
       have aM:Hid (∀j,j<k+1→j<n'→c.1 j=1):=Zpe (fun j hj xJ=>by
        by_cases nR:j=k
        ·rw[nR];exact eC
        ·exact aN.out j (by omega) xJ)
       clear eC;generalize c.1 k=ck at *;go_wp2_with fail;go_roundw
       case rel=>exact⟨k+1,by omega,by go_num,by first|rfl|trivial,aM⟩
       case measure=>simp[intOf];omega
      ·have dc:(((c.1 k:Nat):Int) !=1)=true:=by simp;omega
       have hf:Hid (ZmA t=1):=Zpe (by
        rw[ac.out,if_neg (by
         intro bR;have:=List.all_eq_true.1 bR k (List.mem_range.2 iy);simp at this;exact eC this)])
       clear eC;generalize c.1 k=ck at *;go_wp2_with fail;go_ret;exact⟨by rw[hf.out] <;> rfl,hX⟩
     ·have dk:decide ((k:Int)<(t.length:Int) - 1)=false:=Zpu (by have:=bt.out;omega)
      have aM:Hid (∀j,j<k+1→j<n'→c.1 j=1):=Zpe (fun j hj xJ=>aN.out j (by omega) xJ);generalize c.1 k=ck at *;go_wp2_with fail;go_roundw
      case rel=>exact⟨k+1,by omega,by go_num,by first|rfl|trivial,aM⟩
      case measure=>simp[intOf];omega
    ·obtain rfl:k=t.length:=by omega
     have hf:Hid (ZmA t=0):=Zpe (by
      rw[ac.out,if_pos (List.all_eq_true.2 fun j hj=>by
       have:=aN.out j (by have:=List.mem_range.1 hj;have:=bt.out;omega) (List.mem_range.1 hj);simpa using this)])
     go_wp2_with fail;go_ret;exact⟨by rw[hf.out] <;> rfl,hX⟩
end Go.Proofs.YtmnjakejhbpkoaaGreatDoor
namespace Go.Proofs.YtmnjakejhbpkoaaGreatDoor
open Go Go.RowKit Go.Shelf
theorem Zfb{x:VN}{r:List VN}{i:Nat}{c c':(Nat→Nat) × (Nat→Bool)}(h:ZdD (x :: r) i c=some c'):∃c1,Zhn i x c=some c1∧ZdD r (i+1) c1=some c':=by
 unfold ZdD at h
 split at h
 ·cases h
 ·rename_i c1 h1
  exact⟨c1,h1,h⟩
theorem ZdW{i:Nat}{x:VN}{c c1:(Nat→Nat) × (Nat→Bool)}(h:Zhn i x c=some c1) :
  (Zaj x=true∧c.2 x.var.toNat=false∧c1=(c.1,Zbs c.2 x.var.toNat))∨(Zaj x=false∧x.var=0∧0≤x.left∧x.left<i∧0≤x.right∧x.right<i∧x.left≠x.right∧c1=(Zc2 (Zc2 c.1 x.left.toNat) x.right.toNat,c.2)):=by
 unfold Zhn at h
 split at h
 ·rename_i hl
  split at h
  ·cases h
  ·rename_i hs
   exact .inl ⟨hl,by simpa using hs,by simpa using h.symm⟩
 ·rename_i hl
  split at h
  ·cases h
  ·rename_i hb
   have hb:ZlW i x=false:=by simpa using hb
   simp only[ZlW,Bool.or_eq_false_iff,decide_eq_false_iff_not]at hb;obtain⟨⟨⟨⟨⟨h1,h2⟩,h3⟩,h4⟩,h5⟩,h6⟩:=hb;exact .inr ⟨by simpa using hl,by omega,by omega,by omega,by omega,by omega,h6,by simpa using h.symm⟩
theorem ZkQ(f:Nat→Nat)(i j:Nat):f j≤Zc2 f i j:=by
 unfold Zc2;split <;> omega
theorem Zfc:∀(l:List VN) (i:Nat) (c c':(Nat→Nat) × (Nat→Bool)),ZdD l i c=some c'→∀j,c.1 j≤c'.1 j
 | [],_,c,c',h,j=>by simp only[ZdD,Zpw]at h;rw[h];exact ZpD _
 | x :: r,i,c,c',h,j=>by
   obtain⟨c1,h1,h2⟩:=Zfb h;refine Zpp ?_ (Zfc r (i+1) c1 c' h2 j);rcases ZdW h1 with ⟨_,_,rfl⟩|⟨_,_,_,_,_,_,_,rfl⟩
   ·exact ZpD _
   ·exact Zpp (ZkQ _ _ _) (ZkQ _ _ _)
def Zj4 (c:Nat→Nat)(ch:Nat→Bool):Prop:=∀j,c j=if ch j then 1 else 0
theorem Zgv:∀(l:List VN) (i:Nat) (c:(Nat→Nat) × (Nat→Bool)) (ch:Nat→Bool),Zj4 c.1 ch→ZdD l i c=none→Zcs l i (c.2,ch)=none
 | [],_,_,_,_,h=>by cases h
 | x :: r,i,c,ch,ha,h=>by
   unfold Zcs
   cases hs:Zcl i x (c.2,ch) with
   | none=>rfl
   | some jX =>
     simp only;unfold Zcl at hs
     by_cases hl:Zaj x=true
     ·rw[if_pos hl]at hs
      by_cases qW:c.2 x.var.toNat=true
      ·simp[qW]at hs
      ·have qW:c.2 x.var.toNat=false:=by simpa using qW
       rw[Zhh hl qW]at h;simp only[qW,Bool.false_eq_true,if_false,Zpw]at hs;rw[←hs];exact Zgv r (i+1) (c.1,Zbs c.2 x.var.toNat) ch ha h
     ·rw[if_neg hl]at hs
      have aI:Zaj x=false:=by simpa using hl
      by_cases hv:x.var=0
      ·simp only[hv,ne_eq,not_true_eq_false,if_false]at hs
       split at hs
       ·cases hs
       ·rename_i c1 eC
        split at hs
        ·cases hs
        ·rename_i c2 gh
         obtain⟨a1,a2,a3,rfl⟩:=Zb3 eC;obtain⟨b1,b2,b3,rfl⟩:=Zb3 gh;have aH:x.left≠x.right:=fun e=>by rw[e]at b3;simp[Zbs]at b3
         have bQ:ZlW i x=false:=by
          simp only[ZlW,Bool.or_eq_false_iff,decide_eq_false_iff_not];exact⟨⟨⟨⟨⟨by simpa using hv,by omega⟩,by omega⟩,by omega⟩,by omega⟩,aH⟩
         rw[ZfR aI bQ]at h;simp only[Zpw]at hs;rw[←hs];refine Zgv r (i+1) (Zc2 (Zc2 c.1 x.left.toNat) x.right.toNat,c.2) _ (fun j=>?_) h;have dV:x.left.toNat≠x.right.toNat:=by omega
         have aa:ch x.right.toNat=false:=by simpa [Zbs,Ne.symm dV] using b3
         have h1:=ha j;simp only[Zc2,Zbs]
         by_cases e1:j=x.right.toNat
         ·have e2:j≠x.left.toNat:=by omega
          rw[e1,aa]at h1;simp[e1,Ne.symm dV,h1]
         ·by_cases e2:j=x.left.toNat
          ·rw[e2,a3]at h1
           simp[e2,dV,h1]
          ·simp[e1,e2,h1]
      ·simp[hv]at hs
theorem Zgw:∀(l:List VN) (i:Nat) (c c':(Nat→Nat) × (Nat→Bool)) (ch:Nat→Bool),Zj4 c.1 ch→ZdD l i c=some c' →
  (∃qj,Zcs l i (c.2,ch)=some (c'.2,qj)∧Zj4 c'.1 qj)∨(Zcs l i (c.2,ch)=none∧∃j,j+1<i+l.length∧2≤c'.1 j)
 | [],_,c,c',ch,ha,h=>by
   simp only[ZdD,Zpw]at h;exact .inl ⟨ch,by rw[←h];rfl,by rw[←h];exact ha⟩
 | x :: r,i,c,c',ch,ha,h=>by
   obtain⟨c1,h1,h2⟩:=Zfb h;rcases ZdW h1 with ⟨hl,hs,rfl⟩|⟨hl,hv,a1,a2,b1,b2,aH,rfl⟩
   ·have e:Zcs (x :: r) i (c.2,ch)=Zcs r (i+1) (Zbs c.2 x.var.toNat,ch):=by
     rw[Zcs,Zcl];simp[hl,hs]
    rw[e];rcases Zgw r (i+1) (c.1,Zbs c.2 x.var.toNat) c' ch ha h2 with h3|⟨h3,j,h4,h5⟩
    ·exact .inl h3
    ·exact .inr ⟨h3,j,by simp;omega,h5⟩
   ·have dV:x.left.toNat≠x.right.toNat:=by omega
    have fU:¬ Zaj x=true:=by rw[hl];exact Bool.false_ne_true
    by_cases d1:ch x.left.toNat=true
    ·refine .inr ⟨?_,x.left.toNat,by simp;omega,?_⟩
     ·rw[Zcs,Zcl,if_neg fU]
      simp[hv,ZfH,d1]
     ·have:=Zfc r (i+1) _ c' h2 x.left.toNat
      have hc:=ha x.left.toNat;rw[d1]at hc;simp[Zc2,dV]at this hc;omega
    ·have d1:ch x.left.toNat=false:=by simpa using d1
     by_cases d2:ch x.right.toNat=true
     ·refine .inr ⟨?_,x.right.toNat,by simp;omega,?_⟩
      ·rw[Zcs,Zcl,if_neg fU]
       simp only[hv,ne_eq,not_true_eq_false,if_false];have k1:ZfH i x.left ch=some (Zbs ch x.left.toNat):=by unfold ZfH;rw[if_neg (by rw[d1];simp;omega)]
       rw[k1];have k2:ZfH i x.right (Zbs ch x.left.toNat)=none:=by unfold ZfH;rw[if_pos (.inr (.inr (by simp[Zbs,Ne.symm dV,d2])))]
       simp[k2]
      ·have:=Zfc r (i+1) _ c' h2 x.right.toNat
       have hc:=ha x.right.toNat;rw[d2]at hc;simp[Zc2,Ne.symm dV]at this hc;omega
     ·have d2:ch x.right.toNat=false:=by simpa using d2
      have e:Zcs (x :: r) i (c.2,ch)=Zcs r (i+1) (c.2,Zbs (Zbs ch x.left.toNat) x.right.toNat):=by
       rw[Zcs,Zcl,if_neg fU];simp only[hv,ne_eq,not_true_eq_false,if_false];have k1:ZfH i x.left ch=some (Zbs ch x.left.toNat):=by unfold ZfH;rw[if_neg (by rw[d1];simp;omega)]
       have k2:ZfH i x.right (Zbs ch x.left.toNat)=some (Zbs (Zbs ch x.left.toNat) x.right.toNat):=by unfold ZfH;rw[if_neg (by simp[Zbs,Ne.symm dV,d2];omega)]
       simp[k1,k2]
      rw[e]
      have gY:Zj4 (Zc2 (Zc2 c.1 x.left.toNat) x.right.toNat) (Zbs (Zbs ch x.left.toNat) x.right.toNat):=fun j=>by
       have h1:=ha j;simp only[Zc2,Zbs]
       by_cases e1:j=x.right.toNat
       ·rw[e1,d2]at h1
        simp[e1,Ne.symm dV,h1]
       ·by_cases e2:j=x.left.toNat
        ·rw[e2,d1]at h1
         simp[e2,dV,h1]
        ·simp[e1,e2,h1]
      rcases Zgw r (i+1) (Zc2 (Zc2 c.1 x.left.toNat) x.right.toNat,c.2) c' _ gY h2 with h3|⟨h3,j,h4,h5⟩
      ·exact .inl h3
      ·exact .inr ⟨h3,j,by simp;omega,h5⟩
def ZlH (f:Nat→Nat):Nat→Nat
 | 0=>0
 | m+1=>ZlH f m+f m
def ZlX (s:Nat→Bool):Nat→Nat
 | 0=>0
 | m+1=>ZlX s m+(if s (m+1) then 1 else 0)
theorem Zgy(f:Nat→Nat)(k:Nat):∀m,ZlH (Zc2 f k) m=ZlH f m+if k<m then 1 else 0
 | 0=>by simp[ZlH]
 | m+1=>by
   simp only[ZlH,Zgy f k m,Zc2]
   by_cases h1:k<m
   ·have:¬ m=k:=by omega
    simp[h1,this,show k<m+1 from by omega];omega
   ·by_cases h2:m=k
    ·simp[h2];omega
    ·simp[h1,h2,show ¬ k<m+1 from by omega]
theorem Ziw(s:Nat→Bool)(v:Nat)(hv:s v=false):∀m,ZlX (Zbs s v) m=ZlX s m+if 1≤v∧v≤m then 1 else 0
 | 0=>by
   have:¬ (1≤v∧v≤0):=by omega
   rw[if_neg this];rfl
 | m+1=>by
   simp only[ZlX,Ziw s v hv m,Zbs]
   by_cases h1:m+1=v
   ·subst h1
    simp[hv]
   ·by_cases h2:1≤v∧v≤m
    ·have:1≤v∧v≤m+1:=by omega
     simp[h1,h2,this];omega
    ·have:¬ (1≤v∧v≤m+1):=by omega
     simp[h1,h2,this]
theorem Zkp(s:Nat→Bool):∀m,ZlX s m≤m
 | 0=>ZpD _
 | m+1=>by have:=Zkp s m;simp only[ZlX];split <;> omega
theorem Zi2(f:Nat→Nat):∀m,(∀j,j<m→f j=1)→ZlH f m=m
 | 0,_=>rfl
 | m+1,h=>by simp only[ZlH,Zi2 f m (fun j hj=>h j (by omega)),h m (by omega)]
theorem ZfQ:∀(l:List VN) (i:Nat) (c c':(Nat→Nat) × (Nat→Bool)) (M:Nat),ZdD l i c=some c'→i+l.length≤M+1 →
  ZlH c'.1 M+2*ZlX c'.2 128=ZlH c.1 M+2*ZlX c.2 128+2*l.length
 | [],_,c,c',M,h,_=>by simp only[ZdD,Zpw]at h;rw[h];rfl
 | x :: r,i,c,c',M,h,hM=>by
   obtain⟨c1,h1,h2⟩:=Zfb h;have rG:i+1+r.length≤M+1:=by simp at hM;omega
   have ih:=ZfQ r (i+1) c1 c' M h2 rG;rw[ih];rcases ZdW h1 with ⟨hl,hs,rfl⟩|⟨hl,hv,a1,a2,b1,b2,aH,rfl⟩
   ·simp only[Zaj,Zpx,ZpA]at hl
    rw[Ziw _ _ hs,if_pos (by omega)];simp;omega
   ·simp only
    rw[Zgy,Zgy,if_pos (by simp at hM;omega),if_pos (by simp at hM;omega)];simp;omega
theorem Zow(t:List VN):ZmA t=Zad t:=by
 unfold ZmA Zad
 by_cases h0:t.length=0
 ·rw[if_pos h0,if_pos (.inl h0)]
 ·rw[if_neg h0]
  have ha:Zj4 (fun _=>0) (fun _=>false):=fun j=>rfl
  by_cases h1:255<t.length
  ·rw[if_pos (.inr h1)]
   cases hr:ZdD t 0 (fun _=>0,fun _=>false) with
   | none=>rfl
   | some c' =>
     simp only[Zn2];rw[if_neg];intro aN;have hc:=ZfQ t 0 _ c' (t.length - 1) hr (by omega)
     have hs:=Zi2 c'.1 (t.length - 1) (fun j hj=>by
      have:=List.all_eq_true.1 aN j (List.mem_range.2 hj);simpa using this)
     have hz:ZlH (fun _=>0) (t.length - 1)=0:=by
      generalize t.length - 1=m
      induction m with
      | zero=>rfl
      | succ m ih=>simp[ZlH,ih]
     have bE:ZlX (fun _=>false) 128=0:=by
      generalize (128:Nat)=m
      induction m with
      | zero=>rfl
      | succ m ih=>simp[ZlX,ih]
     have gG:=Zkp c'.2 128;simp only[hs,hz,bE]at hc;omega
  ·rw[if_neg (by omega)]
   cases hr:ZdD t 0 (fun _=>0,fun _=>false) with
   | none=>rw[Zgv t 0 (fun _=>0,fun _=>false) (fun _=>false) ha hr];rfl
   | some c' =>
     rcases Zgw t 0 (fun _=>0,fun _=>false) c' (fun _=>false) ha hr with ⟨qj,h3,h4⟩|⟨h3,j,h4,h5⟩
     ·rw[h3]
      simp only[Zn2,Zn1]
      have:(List.range (t.length - 1)).all (fun j=>decide (c'.1 j=1))=(List.range (t.length - 1)).all qj:=by
       congr 1
       funext j
       rw[h4 j]
       cases qj j <;> rfl
      rw[this]
     ·rw[h3]
      simp only[Zn2,Zn1];rw[if_neg];intro aN;have:=List.all_eq_true.1 aN j (List.mem_range.2 (by omega));simp at this;omega
theorem ZdV{t:List VN}(w:World)(ba:Option Addr)(cap:Nat)(h:t=[]∨∃b o,ba=some ⟨b,o,none⟩∧Zam w b o t)(hl:t.length≤5864062014805) :
  Calls Tryz.prog 77 #[.slice ba t.length cap] w fun e w'=>e= .returned (.int .i64 (Zad t))∧Ext w w':=by
 rw[←Zow]
 by_cases h0:t=[]
 ·subst h0
  exact ZjQ w ba cap
 ·rcases h with h|⟨b,o,rfl,ht⟩
  ·exact absurd h h0
  ·exact ZjR w b o cap ht (List.length_pos_iff.2 h0) hl
end Go.Proofs.YtmnjakejhbpkoaaGreatDoor
