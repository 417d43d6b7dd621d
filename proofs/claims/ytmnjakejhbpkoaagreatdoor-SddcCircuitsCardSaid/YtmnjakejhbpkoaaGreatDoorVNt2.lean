import Derived.Test.YtmnjakejhbpkoaaGreatDoorVLen2
set_option linter.unusedSimpArgs false
set_option linter.unusedVariables false
set_option maxRecDepth 100000
set_option maxHeartbeats 4000000
section
namespace Go.Proofs.YtmnjakejhbpkoaaGreatDoor
open Go Go.RowKit Go.Shelf
theorem Zax{w:World}{b k:Nat}(o:Nat)(v:Value)(h:k≠b):(w.setCell ⟨b,o,none⟩ v).heap[k]? =w.heap[k]?:=by
 simp only[World.setCell,Array.getElem?_modify];rw[if_neg (fun e=>h e.symm)]
def Zb5 (n:Nat):List UInt8:=if n=0 then [] else [UInt8.ofNat n]
def Zbx (n:Nat):Value:=.agg #[.string ⟨(Zb5 n).toArray⟩]
def wrd (n:Nat):Nat→Value:=fun j=>.int .u32 (if j=0 then (n:Int) else 0)
def byt (n k:Nat):Nat→Value:=fun j=>.int .u8 (if j=0∧0<k then (n:Int) else 0)
def FrI (w:World)(g m n k:Nat)(wr:World):Prop:=Below w.heap.size w wr∧w.heap.size<g∧ZbK wr g 5 (4*m) (byt n k)∧wr.heap[w.heap.size]? =some (.cells #[.string ⟨#[]⟩] 52 (0,0))
theorem Zl7{n m k x:Nat}(hn:n<256)(hx:x=if k / 4=0 then n else 0)(j:Nat)(_:j<4*m):Zd9 (byt n k) k (.int .u8 ((x:Int) / 2 ^ (8*(k % 4)) % 256)) j=byt n (k+1) j:=by
 unfold Zd9 byt
 have hv:x / 2 ^ (8*(k % 4)) % 256=if k=0 then n else 0:=by
  by_cases h0:k=0
  ·subst h0
   simp at hx;simp[hx];omega
  ·rw[if_neg h0]
   by_cases h4:k / 4=0
   ·rw[if_pos h4]at hx
    have h8:256≤2 ^ (8*(k % 4)):=Zpp (show 256≤2 ^ 8 by decide) (Nat.pow_le_pow_right (by omega) (by omega));rw[hx,Nat.div_eq_of_lt (by omega)]
   ·rw[if_neg h4]at hx
    rw[hx,Nat.zero_div]
 have fo:((x:Int) / 2 ^ (8*(k % 4)) % 256)=if k=0 then (n:Int) else 0:=by
  have:((x / 2 ^ (8*(k % 4)) % 256:Nat):Int)=(x:Int) / 2 ^ (8*(k % 4)) % 256:=by push_cast;rfl
  rw[←this,hv];split <;> rfl
 rw[fo]
 by_cases hj:j=k
 ·subst hj
  rw[if_pos rfl]
  by_cases h0:j=0
  ·simp[h0]
  ·simp[h0]
 ·rw[if_neg hj]
  by_cases h0:j=0
  ·subst h0
   have:0<k:=by omega
   simp[this]
  ·simp[h0]
def FrJ (w:World)(g m n k:Nat)(wr:World):Prop:=FrI w g m n (4*m) wr∧(0<n→0<k)
theorem Zbp{w:World}{b m n cap:Nat}(h:ZbK w b 146 m (wrd n))(hm:m≤2)(hn:n<256)(h0:m=0→n=0) :
  Calls Tryz.prog 98 #[.slice (some ⟨b,0,none⟩) m cap] w fun e w'=>e= .returned (Zbx n)∧Below w.heap.size w w':=by
 have dD:=fun W=>Zbr (by_:=1) Tryz.underlying204 (show (Tryz.prog.info? 5).map (fun i=>(i.zero,i.size,i.bytes))=some (some (.int .u8 0),1,1) by kernel_rfl) rfl (4*m) (by omega) (by omega) W
 rw[show (((4*m:Nat):Nat):Int)=4*(m:Int) by omega]at dD;have aS:=(Zpr w.heap.size w).alloc (ZpD _) (.cells #[.string ⟨#[]⟩] 52);have aC:=Zpm w (.cells #[.string ⟨#[]⟩] 52)
 go_enter Tryz.func98,Tryz.ntmps98
 go_wp2_with fail;clear dD;have ax:((w.alloc (.cells #[.string ⟨#[]⟩] 52)).alloc (.cells (madeCells #[.int .u8 0] (4*m)) 5)).heap[w.heap.size]? =some (.cells #[.string ⟨#[]⟩] 52):=(Below.heap_alloc _ _ _ (by simp)).trans aC;have pw:Hid (FrI w (w.heap.size+1) m n 0 ((w.alloc (.cells #[.string ⟨#[]⟩] 52)).alloc (.cells (madeCells #[.int .u8 0] (4*m)) 5))):=Zpe ⟨aS.alloc aS.size _,by omega,(Zhf _ (4*m) _ _ _ (by simp)).congr fun j _=>by simp[byt],ax⟩;clear ax;have h':=(h.below aS).below ((Zpr _ _).alloc (ZpD _) (.cells (madeCells #[.int .u8 0] (4*m)) 5));clear aS aC;generalize (w.alloc (.cells #[.string ⟨#[]⟩] 52)).alloc (.cells (madeCells #[.int .u8 0] (4*m)) 5)=w2 at *;obtain⟨g,hg⟩:∃g,g=w.heap.size+1:=⟨_,rfl⟩;rw[←hg]at pw
 try simp only[←hg]
 replace hg:=Zpe hg
 go_loopw [12] (fun i wr=>∃k:Nat,k≤4*m∧i= .int .i64 k∧Hid (FrI w g m n k wr)) (fun i _=>4*m - (intOf i).toNat)
 case atStart=>exact⟨0,Nat.zero_le _,rfl,pw⟩
 case round =>
  clear pw;obtain⟨k,hk,rfl,hI⟩:=hrel;obtain⟨hX,dZ,hG,hr⟩:=hI.out;clear hI;have hR:=h.below hX
  by_cases aE:k<4*m
  ·have dlt:decide ((k:Int)<4*(m:Int))=true:=Zpv (by omega)
   obtain⟨z1,z2⟩:=hG.cell aE;obtain⟨y1,_⟩:=hR.cell (j:=k / 4) (by omega);obtain⟨x,hx⟩:∃x:Nat,x=if k / 4=0 then n else 0:=⟨_,rfl⟩
   have y1':wr.cell? ⟨b,k / 4,none⟩=some (.int .u32 (x:Nat)):=by rw[y1,hx];unfold wrd;split <;> rfl
   clear y1;replace hx:=Zpe hx;have q0:(0:Int)≤k:=by omega
   have q1:(k:Int)<4*(m:Int):=by omega
   replace hR:=Zpe hR;replace hX:=Zpe hX;replace hG:=Zpe hG;have xD:w.heap.size≤g:=by omega
   have jT:=Zpe fun v=>(Zax (w:=wr) (b:=g) (k:=w.heap.size) k v (by omega)).trans hr
   clear hr;go_wp2_with fail;exact⟨⟨k+1,by omega,rfl,Zpe ⟨hX.out.setCell xD _,dZ,(hG.out.set k _).congr (Zl7 hn hx.out),jT.out _⟩⟩,by simp[intOf];omega⟩
  ·have dlt:decide ((k:Int)<4*(m:Int))=false:=Zpu (by omega)
   obtain rfl:k=4*m:=by omega
   have hJ:Hid (FrJ w g m n (4*m) wr):=Zpe ⟨⟨hX,dZ,hG,hr⟩,fun h=>by
    have:m≠0:=fun e=>by have:=h0 e;omega
    omega⟩
   clear hX hG hR hr;go_wp2_with fail
   go_loopw [5] (fun i wr=>∃k:Nat,k≤4*m∧i= .int .i64 k∧Hid (FrJ w g m n k wr)) (fun i _=>(intOf i).toNat)
   case atStart=>exact⟨4*m,ZpD _,by go_num,hJ⟩
   case round =>
    clear hJ;obtain⟨k,hk,rfl,hI⟩:=hrel;obtain⟨⟨hX,dZ,hG,hr⟩,mW⟩:=hI.out;clear hI
    by_cases h1:0<k
    ·have dlt:decide ((0:Int)<(k:Int))=true:=Zpv (by omega)
     obtain⟨z1,_⟩:=hG.cell (j:=k - 1) (by omega);obtain⟨q,rfl⟩:∃q,k=q+1:=⟨k - 1,by omega⟩;rw[Nat.add_sub_cancel]at z1
     by_cases hq:q=0∧0<n
     ·obtain⟨rfl,cO⟩:=hq
      have z1':wr.cell? ⟨g,0,none⟩=some (.int .u8 (n:Nat)):=by rw[z1];unfold byt;rw[if_pos ⟨rfl,by omega⟩]
      have dn:((n:Int) ==0)=false:=by rw[beq_eq_false_iff_ne];omega
      have fy:(convert 204 9 (.slice (some ⟨g,0,none⟩) 1 (4*m))).run Tryz.prog wr= .ok (.string ⟨(Zb5 n).toArray⟩) wr:=by
       have hl:Zb5 n=[UInt8.ofNat n]:=by unfold Zb5;rw[if_neg (by omega)]
       rw[hl]
       exact run_convert_bytes_back wr 204 9 5 ⟨g,0,none⟩ (4*m) [UInt8.ofNat n] Tryz.underlying204 Tryz.underlying5 Tryz.underlying9 (fun j hj=>by
        match j,hj with
        | 0,_=>rw[show (⟨g,0,none⟩:Addr).add 0=⟨g,0,none⟩ from rfl,z1'];simp;omega)
      generalize hT:(⟨(Zb5 n).toArray⟩:ByteArray)=T at *;have nT:(1:Int)≤4*(m:Int):=by omega
      have jT:=hr;have fz:wr.frozen? ⟨w.heap.size,0,none⟩=false:=by simp[World.frozen?,hr]
      have bR:wr.cell? ⟨w.heap.size,0,none⟩=some (.string ⟨#[]⟩):=by simp[World.cell?,hr]
      replace jT:=Zpe jT;replace hG:=Zpe hG;replace hX:=Zpe hX;clear z1 hr;go_wp2_with fail;have aG:((wr.setCell ⟨w.heap.size,0,none⟩ (.string T)).cell? ⟨w.heap.size,0,none⟩=some (.string T)):=by simp[World.cell?,Zag jT.out 0 _]
      exact bodyPost_ret (v:=.agg #[.string T]) (by simp[results,Tryz.results98,go_sem,aG]) rfl ⟨by rw[←hT];rfl,hX.out.setCell (ZpD _) _⟩
     ·have z1':wr.cell? ⟨g,q,none⟩=some (.int .u8 0):=by
       rw[z1];unfold byt
       split
       ·rename_i h2
        have:n=0:=by
         apply ZpB
         intro aH;exact hq ⟨h2.1,by omega⟩
        subst this;rfl
       ·rfl
      have aM:Hid (FrJ w g m n q wr):=Zpe ⟨⟨hX,dZ,hG,hr⟩,fun h=>by
       apply ZpB
       intro aH;exact hq ⟨by have:=aH;omega,h⟩⟩
      replace hG:=Zpe hG;replace hX:=Zpe hX;clear z1 hr;go_wp2_with fail;exact⟨⟨q,by omega,by go_num,aM⟩,by simp[intOf]⟩
    ·have dlt:decide ((0:Int)<(k:Int))=false:=Zpu (by omega)
     obtain rfl:k=0:=by omega
     obtain rfl:n=0:=by omega
     have fy:(convert 204 9 (.slice (some ⟨g,0,none⟩) 0 (4*m))).run Tryz.prog wr= .ok (.string ⟨#[]⟩) wr :=
      run_convert_bytes_back wr 204 9 5 ⟨g,0,none⟩ (4*m) [] Tryz.underlying204 Tryz.underlying5 Tryz.underlying9 (fun j hj=>absurd hj (Nat.not_lt_zero _))
     have nT:(0:Int)≤4*(m:Int):=by omega
     have fz:wr.frozen? ⟨w.heap.size,0,none⟩=false:=by simp[World.frozen?,hr]
     have bR:wr.cell? ⟨w.heap.size,0,none⟩=some (.string ⟨#[]⟩):=by simp[World.cell?,hr]
     have jT:=Zpe hr;replace hG:=Zpe hG;replace hX:=Zpe hX;clear hr;go_wp2_with fail;have aG:((wr.setCell ⟨w.heap.size,0,none⟩ (.string ⟨#[]⟩)).cell? ⟨w.heap.size,0,none⟩=some (.string ⟨#[]⟩)):=by simp[World.cell?,Zag jT.out 0 _]
     exact bodyPost_ret (v:=.agg #[.string ⟨#[]⟩]) (by simp[results,Tryz.results98,go_sem,aG]) rfl ⟨rfl,hX.out.setCell (ZpD _) _⟩
theorem Ze4{w:World}{n:Nat}(hn:n<256):Calls Tryz.prog 30 #[.int .u64 (n:Nat)] w fun e w'=>e= .returned (Zbx n)∧Below w.heap.size w w':=by
 have aS:=(Zpr w.heap.size w).alloc (ZpD _) (.cells #[.string ⟨#[]⟩] 52);have aC:=Zpm w (.cells #[.string ⟨#[]⟩] 52)
 go_enter Tryz.func30,Tryz.ntmps30
 go_wp2_with fail;have aF:((w.alloc (.cells #[.string ⟨#[]⟩] 52)).alloc (.cells #[.int .u32 (n:Nat),.int .u32 ((n:Int) / 4294967296)] 146)).heap[w.heap.size]? =_:=(Below.heap_alloc _ _ _ (by simp)).trans aC;have aP:=aS.alloc aS.size (.cells #[.int .u32 (n:Nat),.int .u32 ((n:Int) / 4294967296)] 146)
 have q:=Zbp (cap:=2) (n:=n) ((Zfa (w.alloc (.cells #[.string ⟨#[]⟩] 52)) #[.int .u32 (n:Nat),.int .u32 ((n:Int) / 4294967296)] 146 (w.heap.size+1) (by simp)).congr (g:=wrd n) fun j hj=>by
  match j,hj with
  | 0,_=>rfl
  | 1,_=>show Value.int .u32 ((n:Int) / 4294967296)= .int .u32 0;rw[show (n:Int) / 4294967296=0 by omega]) (ZpD 2) hn (fun e=>by cases e)
 obtain⟨W,hW⟩:∃W,W=(w.alloc (.cells #[.string ⟨#[]⟩] 52)).alloc (.cells #[.int .u32 (n:Nat),.int .u32 ((n:Int) / 4294967296)] 146):=⟨_,rfl⟩;rw[←hW]at q aF aP ⊢;clear aS aC;refine q.mono ?_;rintro e w3 ⟨rfl,aa⟩;have dd:=(aa.block w.heap.size (by rw[hW];simp;omega)).trans aF;have fz:w3.frozen? ⟨w.heap.size,0,none⟩=false:=by simp[World.frozen?,dd]
 have bR:w3.cell? ⟨w.heap.size,0,none⟩=some (.string ⟨#[]⟩):=by simp[World.cell?,dd]
 have am:=Zpe (aP.trans (aa.mono aP.size));unfold Zbx;generalize hT:(⟨(Zb5 n).toArray⟩:ByteArray)=T at *;have aG:((w3.setCell ⟨w.heap.size,0,none⟩ (.string T)).cell? ⟨w.heap.size,0,none⟩=some (.string T)):=by simp[World.cell?,Zag dd 0 _]
 replace aG:=Zpe aG;replace dd:=Zpe dd;clear q aa aP aF;go_wp2_with fail;exact bodyPost_ret (v:=.agg #[.string T]) (by simp[results,Tryz.results30,go_sem,aG.out]) rfl ⟨by rw[←hT];rfl,am.out.setCell (ZpD _) _⟩
theorem Zew{w:World}{n:Nat}(hn:n<8):Calls Tryz.prog 43 #[.int .i64 (n:Nat)] w fun e w'=>e= .returned (Zbx (2 ^ n))∧Below w.heap.size w w':=by
 have dD:=fun W=>Zbr (by_:=4) Tryz.underlying147 (show (Tryz.prog.info? 146).map (fun i=>(i.zero,i.size,i.bytes))=some (some (.int .u32 0),1,4) by kernel_rfl) rfl 1 (by omega) (by omega) W
 have aS:=(Zpr w.heap.size w).alloc (ZpD _) (.cells #[.string ⟨#[]⟩] 52);have aC:=Zpm w (.cells #[.string ⟨#[]⟩] 52);have d0:decide ((n:Int)<0)=false:=Zpu (by omega);have d1:decide ((4096:Int)<n)=false:=Zpu (by omega);have e0:(n:Int) / 32=0:=by omega
 have e1:(n:Int) % 32=n:=by omega
 rw[show (((1:Nat):Nat):Int)=1 from rfl,show madeCells #[Value.int .u32 0] 1=#[.int .u32 0] by simp[madeCells];exact⟨0,rfl,rfl⟩]at dD
 go_enter Tryz.func43,Tryz.ntmps43
 go_wp2_with fail;have aF:((w.alloc (.cells #[.string ⟨#[]⟩] 52)).alloc (.cells #[.int .u32 (2 ^ n % 4294967296)] 146)).heap[w.heap.size]? =_:=(Below.heap_alloc _ _ _ (by simp)).trans aC;have aP:=aS.alloc aS.size (.cells #[.int .u32 (2 ^ n % 4294967296)] 146);have h2n:2 ^ n<256:=Zpq (Nat.pow_lt_pow_right (by omega) hn) (ZpD _)
 have q:=Zbp (cap:=1) (n:=2 ^ n) ((Zfa (w.alloc (.cells #[.string ⟨#[]⟩] 52)) #[.int .u32 (2 ^ n % 4294967296)] 146 (w.heap.size+1) (by simp)).congr (g:=wrd (2 ^ n)) fun j hj=>by
  match j,hj with
  | 0,_ =>
    show Value.int .u32 (2 ^ n % 4294967296)= .int .u32 ((2 ^ n:Nat):Int)
    congr 1
    have:((2 ^ n:Nat):Int)=2 ^ n:=by push_cast;rfl
    rw[←this];generalize 2 ^ n=p at h2n;exact Int.emod_eq_of_lt (by omega) (by omega)) (Nat.le_succ 1) h2n (fun e=>by cases e)
 obtain⟨W,hW⟩:∃W,W=(w.alloc (.cells #[.string ⟨#[]⟩] 52)).alloc (.cells #[.int .u32 (2 ^ n % 4294967296)] 146):=⟨_,rfl⟩;clear dD
 try simp only[List.setIfInBounds_toArray,List.set_cons_zero]
 rw[←hW]at q aF aP ⊢;clear aS aC;refine q.mono ?_;rintro e w3 ⟨rfl,aa⟩;have dd:=(aa.block w.heap.size (by rw[hW];simp;omega)).trans aF;have fz:w3.frozen? ⟨w.heap.size,0,none⟩=false:=by simp[World.frozen?,dd]
 have bR:w3.cell? ⟨w.heap.size,0,none⟩=some (.string ⟨#[]⟩):=by simp[World.cell?,dd]
 have am:=Zpe (aP.trans (aa.mono aP.size));unfold Zbx;generalize hT:(⟨(Zb5 (2 ^ n)).toArray⟩:ByteArray)=T at *;have aG:((w3.setCell ⟨w.heap.size,0,none⟩ (.string T)).cell? ⟨w.heap.size,0,none⟩=some (.string T)):=by simp[World.cell?,Zag dd 0 _]
 replace aG:=Zpe aG;replace dd:=Zpe dd;clear q aa aP aF;go_wp2_with fail;exact bodyPost_ret (v:=.agg #[.string T]) (by simp[results,Tryz.results43,go_sem,aG.out]) rfl ⟨by rw[←hT];rfl,am.out.setCell (ZpD _) _⟩
def nw (n:Nat):Nat:=if n=0 then 0 else 1
theorem ZdC{w:World}{n:Nat}(hn:n<256):Calls Tryz.prog 110 #[Zbx n] w fun e w'=>∃b,e= .returned (.slice (some ⟨b,0,none⟩) (nw n) (nw n))∧w.heap.size≤b∧ZbK w' b 146 (nw n) (wrd n)∧Below w.heap.size w w':=by
 unfold Zbx
 by_cases h0:n=0
 ·subst h0
  have dD:=fun W=>Zbr (by_:=4) Tryz.underlying147 (show (Tryz.prog.info? 146).map (fun i=>(i.zero,i.size,i.bytes))=some (some (.int .u32 0),1,4) by kernel_rfl) rfl 0 (by omega) (by omega) W
  rw[show (((0:Nat):Nat):Int)=0 from rfl]at dD
  show Calls Tryz.prog 110 #[.agg #[.string ⟨#[]⟩]] w _
  have aS:=(Zpr w.heap.size w).alloc (ZpD _) (.cells #[.string ⟨#[]⟩] 52)
  go_enter Tryz.func110,Tryz.ntmps110
  go_wp2_with fail;refine wp_loop_rounds 1 ?_;rw[rounds_succ];go_wp2_with fail;have hR:=Zhf (w.alloc (.cells #[.string ⟨#[]⟩] 52)) 0 (.int .u32 0) 146 (w.heap.size+1) (by simp);have am:=aS.alloc aS.size (.cells (madeCells #[.int .u32 0] 0) 146);go_ret;exact⟨w.heap.size+1,rfl,by omega,hR.congr fun j hj=>absurd hj (Nat.not_lt_zero _),am⟩
 ·have dD:=fun W=>Zbr (by_:=4) Tryz.underlying147 (show (Tryz.prog.info? 146).map (fun i=>(i.zero,i.size,i.bytes))=some (some (.int .u32 0),1,4) by kernel_rfl) rfl 1 (by omega) (by omega) W
  rw[show (((1:Nat):Nat):Int)=1 from rfl,show madeCells #[Value.int .u32 0] 1=#[.int .u32 0] by simp[madeCells];exact⟨0,rfl,rfl⟩]at dD;have hl:Zb5 n=[UInt8.ofNat n]:=by unfold Zb5;rw[if_neg h0]
  rw[hl]
  go_enter Tryz.func110,Tryz.ntmps110
  go_wp2_with fail;refine wp_loop_rounds 2 ?_;rw[rounds_succ];go_wp2_with fail;(refine wp_region_held_drew (S:=(fun _=>True)) (by kernel_rfl) ?_ (fun aA=>?_))
  ·trivial
  have hT:True:=trivial;have w0:IntKind.i64.wrap 0=0:=by decide
  have w1:IntKind.u64.wrap 0=0:=by decide
  (refine ZpE (i:=0) (v:=?_) rfl (by kernel_rfl) (fun _ _ _ h=>h) (Or.inl ⟨by rfl,?_⟩) (by assumption) ?_);rotate_left
  ·(intro w aB;(try dsimp only at aB);go_simp;first|done|with_reducible rfl)
  (try simp only[Act.put,Zpf,Zpg,Zph]);(refine ZpE (i:=1) (v:=?_) rfl (by kernel_rfl) (fun _ _ _ h=>h) (Or.inl ⟨by rfl,?_⟩) (by assumption) ?_);rotate_left
  ·(intro w aB;(try dsimp only at aB);go_simp;first|done|with_reducible rfl)
  (try simp only[Act.put,Zpf,Zpg,Zph]);have hu:(((⟨#[UInt8.ofNat n]⟩:ByteArray)[0]'(by show 0<1;omega)).toNat:Int)=n:=by show (((UInt8.ofNat n).toNat:Nat):Int)=n;simp;omega
  have uX:IntKind.u32.wrap (n:Int)=n:=by simp[IntKind.wrap,IntKind.bits,IntKind.signed];omega
  have hu3:bits BinOp.or IntKind.u32 0 (n:Int)=n:=by rw[show bits BinOp.or IntKind.u32 0 (n:Int)=IntKind.u32.wrap ((BitVec.ofInt 32 0 ||| BitVec.ofInt 32 (n:Int)).toNat:Int) from rfl];simp;rw[Int.emod_eq_of_lt (by omega) (by omega)];exact uX
  (refine ZpE (i:=7) (v:=?_) rfl (by kernel_rfl) (fun _ _ _ h=>h) (Or.inl ⟨by rfl,?_⟩) (by assumption) ?_);rotate_left
  ·(intro w aB;(try dsimp only at aB);go_simp;first|done|with_reducible rfl)
  (try simp only[Act.put,Zpf,Zpg,Zph]);(refine ZpE (i:=10) (v:=?_) rfl (by kernel_rfl) (fun _ _ _ h=>h) (Or.inl ⟨by rfl,?_⟩) (by assumption) ?_);rotate_left
  ·(intro w aB;(try dsimp only at aB);go_simp;first|done|with_reducible rfl)
  (try simp only[Act.put,Zpf,Zpg,Zph]);(refine ZpE (i:=11) (v:=?_) rfl (by kernel_rfl) (fun _ _ _ h=>h) (Or.inl ⟨by rfl,?_⟩) (by assumption) ?_);rotate_left
  ·(intro w aB;(try dsimp only at aB);go_simp;first|done|with_reducible rfl)
  (try simp only[Act.put,Zpf,Zpg,Zph]);(refine ZpE (i:=12) (v:=?_) rfl (by kernel_rfl) (fun _ _ _ h=>h) (Or.inl ⟨by rfl,?_⟩) (by assumption) ?_);rotate_left
  ·(intro w aB;(try dsimp only at aB);go_simp;first|done|with_reducible rfl)
  (try simp only[Act.put,Zpf,Zpg,Zph]);(refine ZpE (i:=13) (v:=?_) rfl (by kernel_rfl) (fun _ _ _ h=>h) (Or.inl ⟨by rfl,?_⟩) (by assumption) ?_);rotate_left
  ·(intro w aB;(try dsimp only at aB);go_simp;first|done|with_reducible rfl)
  (try simp only[Act.put,Zpf,Zpg,Zph]);(refine ZpE (i:=2) (v:=?_) rfl (by kernel_rfl) (fun _ _ _ h=>h) (Or.inl ⟨by rfl,?_⟩) (by assumption) ?_);rotate_left
  ·(intro w aB;(try dsimp only at aB);go_simp;first|done|with_reducible rfl)
  (try simp only[Act.put,Zpf,Zpg,Zph]);(refine ZpE (i:=3) (v:=?_) rfl (by kernel_rfl) (fun _ _ _ h=>h) (Or.inl ⟨by rfl,?_⟩) (by assumption) ?_);rotate_left
  ·(intro w aB;(try dsimp only at aB);go_simp;first|done|with_reducible rfl)
  (try simp only[Act.put,Zpf,Zpg,Zph]);(refine ZpE (i:=5) (v:=?_) rfl (by kernel_rfl) (fun _ _ _ h=>h) (Or.inl ⟨by rfl,?_⟩) (by assumption) ?_);rotate_left
  ·(intro w aB;(try dsimp only at aB);go_simp;first|done|with_reducible rfl)
  (try simp only[Act.put,Zpf,Zpg,Zph]);(refine wpAnyH_ready (rs:=[4,6]) (by kernel_rfl) (by simp) ?_);(refine Ziy rfl rfl (fun K hK=>?_) (fun K hK=>?_));(rw[if_pos (by rfl)]);go_simp;(refine hK.out _ _ trivial (fun hT=>?_))
  (clear hT hK K)
  (try simp only[Act.put,Zpf,Zpg,Zph]);(refine wpAnyH_ready (rs:=[6]) (by kernel_rfl) (by simp) ?_);(refine Zaw rfl (fun K hK=>?_));(rw[if_pos (by rfl)]);go_simp;(refine hK.out _ _ trivial (fun hT=>?_))
  (clear hT hK K)
  (try simp only[Act.put,Zpf,Zpg,Zph]);(refine ZpE (i:=8) (v:=?_) rfl (by kernel_rfl) (fun _ _ _ h=>h) (Or.inl ⟨by rfl,?_⟩) (by assumption) ?_);rotate_left
  ·(intro w aB;(try dsimp only at aB);go_simp;first|done|with_reducible rfl)
  (try simp only[Act.put,Zpf,Zpg,Zph]);(refine ZpE (i:=9) (v:=?_) rfl (by kernel_rfl) (fun _ _ _ h=>h) (Or.inl ⟨by rfl,?_⟩) (by assumption) ?_);rotate_left
  ·(intro w aB;(try dsimp only at aB);go_simp;first|done|with_reducible rfl)
  (try simp only[Act.put,Zpf,Zpg,Zph]);(refine ZpE (i:=14) (v:=?_) rfl (by kernel_rfl) (fun _ _ _ h=>h) (Or.inl ⟨by rfl,?_⟩) (by assumption) ?_);rotate_left
  ·(intro w aB;(try dsimp only at aB);go_simp;first|done|with_reducible rfl)
  (try simp only[Act.put,Zpf,Zpg,Zph]);refine ?hRest2;rotate_left;(rw[if_pos (by rfl)]);go_simp;(refine hK.out _ _ trivial (fun hT=>?_))
  (clear hT hK K)
  (try simp only[Act.put,Zpf,Zpg,Zph]);(refine ZpE (i:=8) (v:=?_) rfl (by kernel_rfl) (fun _ _ _ h=>h) (Or.inl ⟨by rfl,?_⟩) (by assumption) ?_);rotate_left
  ·(intro w aB;(try dsimp only at aB);go_simp;first|done|with_reducible rfl)
  (try simp only[Act.put,Zpf,Zpg,Zph]);(refine ZpE (i:=9) (v:=?_) rfl (by kernel_rfl) (fun _ _ _ h=>h) (Or.inl ⟨by rfl,?_⟩) (by assumption) ?_);rotate_left
  ·(intro w aB;(try dsimp only at aB);go_simp;first|done|with_reducible rfl)
  (try simp only[Act.put,Zpf,Zpg,Zph]);(refine ZpE (i:=14) (v:=?_) rfl (by kernel_rfl) (fun _ _ _ h=>h) (Or.inl ⟨by rfl,?_⟩) (by assumption) ?_);rotate_left
  ·(intro w aB;(try dsimp only at aB);go_simp;first|done|with_reducible rfl)
  (try simp only[Act.put,Zpf,Zpg,Zph]);(refine wpAnyH_ready (rs:=[4]) (by kernel_rfl) (by simp) ?_);(refine Zaw rfl (fun K hK=>?_));(rw[if_pos (by rfl)]);go_simp;(refine hK.out _ _ trivial (fun hT=>?_))
  (clear hT hK K)
  (try simp only[Act.put,Zpf,Zpg,Zph]);exact ?hRest2;(refine ZpE (i:=15) (v:=?_) rfl (by kernel_rfl) (fun _ _ _ h=>h) (Or.inl ⟨by rfl,?_⟩) (by assumption) ?_);rotate_left
  ·(intro w aB;(try dsimp only at aB);go_simp;first|done|with_reducible rfl)
  (try simp only[Act.put,Zpf,Zpg,Zph]);(refine ZpE (i:=16) (v:=?_) rfl (by kernel_rfl) (fun _ _ _ h=>h) (Or.inl ⟨by rfl,?_⟩) (by assumption) ?_);rotate_left
  ·(intro w aB;(try dsimp only at aB);go_simp;first|done|with_reducible rfl)
  (try simp only[Act.put,Zpf,Zpg,Zph]);(refine wpAnyH_ready (rs:=[17]) (by kernel_rfl) (by simp) ?_);(refine Zaw rfl (fun K hK=>?_))
  ((rw[if_pos (by rfl)]);go_simp;refine hK.out _ _ trivial (fun hT=>?_))
  (clear hK K)
  (try simp only[Act.put,Zpf,Zpg,Zph]);(refine wpAnyH_done (by kernel_rfl) ?_ _);go_wp2_with fail;rw[rounds_succ];go_wp2_with fail;have am:Below w.heap.size w ((w.alloc (.cells #[.string ⟨#[UInt8.ofNat n]⟩] 52)).alloc (.cells #[.int .u32 (n:Nat)] 146)).drew:=(((Zpr w.heap.size w).alloc (ZpD _) _).alloc (by simp) _).drew
  have hR:=(Zfa (w.alloc (.cells #[.string ⟨#[UInt8.ofNat n]⟩] 52)) #[.int .u32 (n:Nat)] 146 (w.heap.size+1) (by simp)).congr (g:=wrd n) fun j hj=>by
   match j,hj with
   | 0,_=>rfl
  go_ret;have e1:nw n=1:=by unfold nw;rw[if_neg h0]
  rw[e1];exact⟨w.heap.size+1,rfl,by omega,hR.same rfl,am⟩
end Go.Proofs.YtmnjakejhbpkoaaGreatDoor
end
