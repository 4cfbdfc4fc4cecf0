/- Texts of one claim, put together. -/
import Derived.Test.YtlginbmjiecglaaGreatDoorW6
import Derived.Test.YtlginbmjiecglaaGreatDoorRows
import Derived.ProofKit
import Derived.Deep.Slices
import Derived.DataReads
import Derived.Lib.Overlaps
import Derived.Laws.Externs
import Derived.KernelRfl
namespace Go.Proofs.YtlginbmjiecglaaGreatDoor
section
open Go Go.Abs
abbrev tz (h:Hint):Hint:=.two .z h
def rb (l:List Nat):List (List Nat):=l.map fun x=>(List.range l.length).filter (Nat.testBit x)
def el (n:Nat):List (List Nat):=List.replicate n []
def bN (n x:Nat):List Bool:=(List.range n).map (Nat.testBit x)
abbrev ii:Bool:=true
abbrev oo:Bool:=false
def a8t:Hint:=(tz (tz (.two (tz (.two (.two (.reg (rb [0,0,0,6,0,0,0,0]) (rb [0,1,3,0,0,0,63,127])) .z) .z)) (.pt (bN 14 8208) (tz (tz (tz (tz (.pt (bN 18 237568) (.two (.reg (rb [0,0,0,0,0,0,0,0,0,0,0,1024,0,0,0,0]) (rb [0,1,3,7,15,31,63,127,255,511,1023,511,4095,8191,16383,32767])) .z))))))))))
def a8u:Hint:=(tz (tz (.two (tz (.one (tz (.two (.two (.reg (rb [0,0,0,0,0,0,2,0,0]) (rb [0,1,0,0,8,24,60,127,255])) (tz (.one (tz (tz (.pt (bN 42 2199023257880) .z)))))) (.pt (bN 11 1848) (tz (.two (.two (.reg (rb [0,0,0,0,0,0,2,0,0]) (rb [0,1,0,0,8,24,60,127,255])) (tz (.one (tz (tz (.pt (bN 81 1208925819614629174710552) (tz (tz (.pt (bN 81 1208925819614629174710552) (tz (tz (.reg (rb [0,0,0,0,0,0,8,0,0,0,0]) (rb [0,0,2,7,0,16,48,112,255,511,1023]))))))))))))) (.pt (bN 11 1848) (tz (.two (.two (.reg (rb [0,0,0,0,0,0,2,0,0]) (rb [0,1,0,0,8,24,60,127,255])) (tz (.one (tz (tz (.pt (bN 132 2722258935367507707706996859454145700632) (tz (tz (.pt (bN 132 2722258935367507707706996859454145700632) .z))))))))) (.pt (bN 11 1336) (tz (tz (.pt (bN 11 1304) .z)))))))))))))) (.pt (bN 9 272) .z))))
def a8v:Hint:=.z
def a8w:Hint:=(tz (tz (.two (tz (.one (.one (.pt (bN 7 113) (tz (.pt (bN 7 113) (.two (.one (tz (tz (tz (tz (.one (tz (.two (.reg (rb [0,0,0,0,0,0,0,8,32,0,0]) (rb [0,0,2,6,14,30,0,64,206,462,1023])) (tz (tz (tz (tz (tz (tz (tz (tz (tz (.two (.reg (rb [0,0,0,0,0,0,0,8,32,0,0,0,264,1056,0]) (rb [0,0,2,6,14,30,0,64,206,462,974,0,2048,6606,16383])) .z)))))))))))))))))) (.pt (bN 7 113) .z)))))))) (.pt (bN 6 48) .z))))
def a5w:Hint:=(tz (tz (tz (.pt [ii] .z))))
def a5x:Hint:=(tz (tz (tz (.pt (bN 6 36) (.two (tz (.one (.one (.pt (bN 7 100) (tz (.pt (bN 7 100) (.two (.one (tz (.two (.reg (el 30) (rb [0,1,3,7,15,31,63,127,255,511,1023,2047,4095,8191,16383,32767,65535,131071,262143,524287,262143,1310719,4194303,8388607,16777215,262143,33816575,134217727,268435455,536870911])) .z))) (.pt (bN 7 100) .z)))))))) (.pt (bN 6 36) (.two (tz (.one (.one (.pt (bN 9 292) (tz (.pt (bN 9 292) (.two (.one (tz (tz (.pt (bN 10 804) (.two (.reg (el 38) (rb [0,1,3,7,15,7,39,127,255,511,7,1031,4095,8191,16383,32767,16383,81919,262143,524287,1048575,16383,2113535,8388607,16777215,33554431,67108863,33554431,167772159,536870911,1073741823,2147483647,33554431,4328521727,17179869183,34359738367,68719476735,137438953471])) .z))))) (.pt (bN 9 292) .z)))))))) (.pt (bN 6 36) (.two (tz (.one (.one (.pt (bN 11 1060) (tz (.pt (bN 11 1060) (.two (.one (tz (.two (.reg (el 39) (rb [0,1,3,7,15,31,15,79,255,511,1023,2047,2047,6143,16383,32767,65535,131071,262143,524287,1048575,2097151,4194303,8388607,16777215,33554431,67108863,134217727,268435455,134217727,671088639,2147483647,4294967295,8589934591,134217727,17314086911,68719476735,137438953471,274877906943])) .z))) (.pt (bN 11 1060) .z)))))))) (.pt [oo,oo,ii] .z))))))))))
def a5y:Hint:=(tz (tz (.pt [oo,ii,ii] (tz (tz (.pt (bN 7 68) (.two (tz (.one (.one (.pt (bN 30 939524164) (tz (tz (.pt (bN 30 939524164) (.two (.one (tz (.reg (el 8) (rb [0,1,3,7,0,16,0,127])))) (.pt (bN 30 939524164) .z))))))))) (.pt (bN 7 68) (.two (tz (.one (.one (.pt (bN 46 61572651155524) (tz (tz (.pt (bN 46 61572651155524) (.two (.one (tz (.reg (el 11) (rb [0,1,3,7,0,16,0,64,240,0,1023])))) (.pt (bN 46 61572651155524) .z))))))))) (.pt (bN 7 68) (.two (tz (.one (.one (.pt (bN 65 32281802128991715396) (tz (tz (.pt (bN 65 32281802128991715396) (.two (.one (tz (.reg (el 8) (rb [0,1,3,7,0,16,0,127])))) (.pt (bN 65 32281802128991715396) .z))))))))) (.pt (bN 7 68) .z))))))))))))
def a5z:Hint:=(tz (tz (tz (.pt [oo,ii] (tz (tz (tz (tz (tz (tz (.two (.reg (rb [0,0,0,0,0,0,0,0,0,0,0,0,0,0,0,0,0,0,0,0,0,0,0,0,0,0,0,0,134217728,0,0,0]) (rb [0,1,3,7,15,31,63,127,255,511,1023,2047,4095,8191,16383,32767,65535,131071,262143,524287,1048575,2097151,4194303,8388607,16777215,33554431,67108863,134217727,134217727,536870911,1073741823,2147483647])) .z)))))))))))
def a5A:Hint:=(tz (tz (.pt [oo,oo,ii] (.two (tz (.one (.one (.pt (bN 32 3758096388) (tz (tz (.pt (bN 32 3758096388) (.two (.one (tz (.two (.reg (el 30) (rb [0,1,3,7,15,31,63,127,255,511,255,1279,4095,8191,16383,255,33023,131071,262143,524287,1048575,2097151,4194303,8388607,16777215,33554431,67108863,134217727,268435455,536870911])) .z))) (.pt (bN 32 3758096388) .z))))))))) (.pt [oo,oo,ii] (tz (.pt [oo,oo,ii] (.two (tz (.one (.one (.pt (bN 79 528905046081400263933956) (tz (tz (.pt (bN 79 528905046081400263933956) (tz (.pt (bN 79 528905046081400263933956) .z))))))))) (.pt [] .z)))))))))
def a5B:Hint:=(tz (tz (.pt (bN 4 12) (.two (tz (.one (.one (.pt (bN 6 44) (tz (.pt (bN 6 44) (.two (.one (.two (.reg (el 11) (rb [0,1,0,7,15,0,32,0,224,480,1023])) .z)) (.pt (bN 6 44) .z)))))))) (.pt (bN 4 12) (.two (tz (.one (.one (.pt (bN 7 76) (tz (.pt (bN 7 76) (.two (.one (.two (.reg (el 11) (rb [0,1,0,7,15,0,32,0,224,480,1023])) .z)) (.pt (bN 7 76) .z)))))))) (.pt (bN 4 12) (.two (tz (.one (.one (.pt (bN 8 140) (tz (.pt (bN 8 140) (.two (.one (.two (.reg (el 11) (rb [0,1,0,7,15,0,32,0,224,480,1023])) .z)) (.pt (bN 8 140) .z)))))))) (.pt [] .z)))))))))
def a5C:Hint:=(tz (tz (.two (tz (.one (.pt (bN 48 140754670846637) (tz (.pt (bN 6 40) .z))))) (.pt (bN 48 140754668225165) (.two (tz (.one (.pt (bN 48 140758963192461) (tz (.pt (bN 8 136) .z))))) (.pt (bN 48 140737488355853) (.two (tz (.one (.pt (bN 48 175921860444684) (tz (.pt (bN 10 520) .z))))) (.pt (bN 4 12) .z))))))))
def a5D:Hint:=.z
def a5E:Hint:=(tz (tz (.pt [] .z)))
def a5F:Hint:=(tz (tz (tz (tz (.pt (bN 9 336) .z)))))
def a5G:Hint:=(tz (tz (tz (tz (.pt (bN 9 336) .z)))))
def a5H:Hint:=(tz (.two (tz (.one (.one (.pt (bN 4 10) (tz (.pt (bN 4 10) (.two (.one (tz (tz (.two (tz (.one (.one (.pt (bN 7 122) (tz (.pt (bN 7 122) (.two (.one (tz (.two (.reg (rb [0,0,0,0,0,0,0,1,0,0]) (rb [0,0,2,0,14,30,62,126,255,511])) .z))) (.pt (bN 7 122) .z)))))))) (.pt (bN 6 58) (.two (tz (.one (.one (.pt (bN 8 186) (tz (.pt (bN 8 186) (.two (.one (.two (tz (.two (.reg (rb [0,0,0,0,0,0,0,1,0,0]) (rb [0,0,2,0,14,30,62,126,255,511])) .z)) (.pt (bN 8 186) (tz (.two (.reg (rb [0,0,0,0,0,0,0,1,0,0]) (rb [0,0,2,0,14,30,62,126,255,511])) .z))))) (.pt (bN 8 186) .z)))))))) (.pt (bN 6 42) .z))))))) (.pt (bN 4 10) .z)))))))) (.pt [] .z)))
def a5I:Hint:=(tz (tz (tz (.pt (bN 4 12) .z))))
def a5J:Hint:=(tz (tz (.pt [ii,ii,ii] (tz (.two (.one (.one (.pt (bN 8 135) (tz (.pt (bN 8 135) .z))))) (.pt (bN 8 135) (tz (.two (.reg (rb [0,0,0,0,0,0,0,0,0,0,0,0,0,0,0,0,0,0,0,16640,0,0,0,0]) (rb [0,0,2,6,14,30,0,126,255,0,0,1024,3584,7680,16383,0,32768,98304,229376,491520,0,2064384,4194303,8388607])) .z))))))))
def a5K:Hint:=(tz (tz (.pt [ii,ii] (.two (.two (.reg (el 19) (rb [0,1,3,7,15,31,0,64,192,448,1023,2047,4095,8191,16383,32767,65535,131071,262143])) .z) (.pt [ii,ii] (tz (.two (.reg (rb [0,0,0,0,0,0,0,0,0,0,0,0,128,0,0,0,0,0,0,0,0]) (rb [0,0,0,4,12,28,60,126,0,256,768,1792,3840,0,16128,32512,65534,131071,262143,524287,1048575])) .z)))))))
def a5L:Hint:=(tz (tz (tz (.pt (bN 8 161) (.two (.two (.reg (el 13) (rb [0,0,2,6,14,30,0,126,254,510,0,2047,4095])) .z) (.pt (bN 8 161) (tz (.two (.reg (el 18) (rb [0,1,3,7,15,0,63,127,255,0,512,2047,4095,8191,8191,0,49151,131071])) (.two (.reg (el 18) (rb [0,1,3,7,15,0,63,127,255,0,512,2047,4095,8191,8191,0,49151,131071])) (tz (.pt (bN 13 5761) (.two (.reg (el 10) (rb [0,1,3,7,15,0,0,127,255,511])) (.two (.reg (el 10) (rb [0,1,3,7,15,0,0,127,255,511])) .z)))))))))))))
def a5M:Hint:=.z
def a5N:Hint:=(tz (tz (tz (.pt (bN 8 161) (.two (.two (.reg (el 13) (rb [0,0,2,6,14,30,0,126,254,510,0,2047,4095])) .z) (.pt (bN 8 161) (tz (.two (.two (.reg (el 13) (rb [0,1,3,7,15,0,63,127,255,0,512,2047,4095])) .z) (.pt (bN 10 673) (.two (.reg (el 18) (rb [0,1,3,7,15,0,63,127,255,0,512,2047,4095,8191,8191,0,49151,131071])) (.two (.reg (el 18) (rb [0,1,3,7,15,0,63,127,255,0,512,2047,4095,8191,8191,0,49151,131071])) (tz (.pt (bN 13 5761) (.two (.reg (el 10) (rb [0,1,3,7,15,0,0,127,255,511])) (.two (.reg (el 10) (rb [0,1,3,7,15,0,0,127,255,511])) .z)))))))))))))))
def a5O:Hint:=(tz (tz (tz (tz (.pt (bN 11 1665) (tz (.pt (bN 11 1665) (.two (.two (.reg (el 19) (rb [0,1,3,7,15,0,63,127,255,0,512,1536,3584,7680,0,32256,65024,130560,262143])) .z) (.pt (bN 11 1665) (.two (.two (.reg (el 13) (rb [0,0,2,6,14,30,0,126,254,510,0,2047,4095])) .z) (.pt (bN 11 1665) (.two (.two (.reg (el 13) (rb [0,1,3,7,15,0,63,127,255,0,512,2047,4095])) .z) (.pt (bN 11 1665) (.two (.reg (el 18) (rb [0,1,3,7,15,0,63,127,255,0,512,2047,4095,8191,8191,0,49151,131071])) (.two (.reg (el 18) (rb [0,1,3,7,15,0,63,127,255,0,512,2047,4095,8191,8191,0,49151,131071])) (tz (.pt (bN 15 22017) (.two (.reg (el 10) (rb [0,1,3,7,15,0,0,127,255,511])) (.two (.reg (el 10) (rb [0,1,3,7,15,0,0,127,255,511])) .z)))))))))))))))))))
def a5P:Hint:=(tz (tz (.pt (bN 8 135) (tz (.pt (bN 8 135) (tz (.pt (bN 8 135) (.two (tz (tz (.two (.two (.reg (el 10) (rb [0,1,3,7,15,0,0,127,255,511])) .z) .z))) (.pt (bN 8 135) (tz (.two (.one (.one (.pt (bN 12 2183) (tz (.pt (bN 12 2183) .z))))) (.pt (bN 12 2183) (tz (.two (.reg (rb [0,0,0,0,0,0,0,0,0,0,0,256,0,0,0,0,0,0,0,16640,0,0,0,0]) (rb [0,0,2,6,14,30,0,126,255,0,0,0,3584,7680,16383,0,32768,98304,229376,491520,0,2064384,4194303,8388607])) .z))))))))))))))
def a5Q:Hint:=(tz (tz (tz (tz (.pt (bN 12 3457) (tz (tz (tz (.pt (bN 14 15745) (tz (tz (.pt (bN 15 32129) (tz (.pt (bN 15 28033) (.two (.two (.reg (el 13) (rb [0,1,3,7,15,0,63,127,255,0,512,2047,4095])) .z) (.pt (bN 15 28033) (.two (.reg (rb [0,0,0,0,0,0,0,0,0,0,0,0,0,0,0,0,0,16929,0,0,0,0,0,0,0,0,0,0]) (rb [0,0,2,6,14,30,0,126,254,510,0,1024,3072,7168,15360,0,0,98304,261120,523264,1047552,2097151,4194303,8388607,8388607,0,50331647,134217727])) (tz (.pt (bN 17 85377) (.two (.reg (el 18) (rb [0,1,3,7,15,0,63,127,255,0,512,2047,4095,8191,8191,0,49151,131071])) (.two (.reg (el 18) (rb [0,1,3,7,15,0,63,127,255,0,512,2047,4095,8191,8191,0,49151,131071])) (.two (.reg (el 18) (rb [0,1,3,7,15,0,63,127,255,0,512,2047,4095,8191,8191,0,49151,131071])) (tz (.pt (bN 23 5590401) (.two (.reg (el 18) (rb [0,1,3,7,15,0,63,127,255,0,512,2047,4095,8191,8191,0,49151,131071])) (.two (.reg (el 10) (rb [0,1,3,7,15,0,0,127,255,511])) (.two (.reg (el 10) (rb [0,1,3,7,15,0,0,127,255,511])) (.two (.reg (el 10) (rb [0,1,3,7,15,0,0,127,255,511])) (.two (.reg (el 10) (rb [0,1,3,7,15,0,0,127,255,511])) .z)))))))))))))))))))))))))))))
def a5R:Hint:=(tz (tz (.pt [ii] (.two (tz (.one (.one (.pt (bN 4 9) (tz (.pt (bN 4 9) (tz (.pt (bN 4 9) .z)))))))) (.pt [] .z)))))
def a5S:Hint:=(tz (.two (tz (.one (.one (.pt (bN 6 35) (tz (.pt (bN 6 35) (tz (.pt (bN 6 35) .z)))))))) (.pt [] .z)))
def a5T:Hint:=(tz (tz (.pt [oo,ii] (tz (.pt [] .z)))))
def a5U:Hint:=(tz (tz (.pt [ii] .z)))
def a5V:Hint:=(tz (tz (.two (.one (tz (.two (.reg (el 8) (rb [0,1,3,7,0,0,63,127])) (.two (.reg (el 11) (rb [0,1,3,7,15,0,32,96,224,511,1023])) (tz (tz (.reg (el 12) (rb [0,0,2,6,14,0,0,64,254,511,1023,2047])))))))) (.pt [] .z))))
def a5W:Hint:=(tz (tz (.two (.one (tz (.two (.reg (el 8) (rb [0,1,3,7,0,0,63,127])) (.two (.reg (el 11) (rb [0,1,3,7,15,0,32,96,224,511,1023])) (tz (tz (.reg (el 12) (rb [0,0,2,6,14,0,0,64,254,511,1023,2047])))))))) (.pt [] .z))))
def a5X:Hint:=(tz (tz (.two (.one (tz (.two (.reg (el 8) (rb [0,1,3,7,0,0,63,127])) (.two (.reg (el 11) (rb [0,1,3,7,15,0,32,96,224,511,1023])) (tz (tz (.reg (el 12) (rb [0,0,2,6,14,0,0,64,254,511,1023,2047])))))))) (.pt [] .z))))
def a5Y:Hint:=(tz (tz (tz (.pt [] .z))))
def a5Z:Hint:=(tz (tz (.pt [ii,ii] (.two (.two (.reg (rb [0,0,0,0,0,0,0,0,16,0,0,0,0,0,0,0,0]) (rb [0,1,3,7,15,0,32,96,224,511,1023,2047,4095,8191,16383,32767,65535])) .z) (.pt [ii,ii] (tz (.two (.reg (el 15) (rb [0,1,3,7,0,16,48,112,0,256,768,1792,0,7936,16383])) .z)))))))
def a6a:Hint:=(tz (tz (tz (.pt (bN 10 929) (tz (.pt (bN 10 897) (.two (tz (.two (tz (.reg (el 8) (rb [0,1,3,7,0,16,0,127]))) .z)) (.pt (bN 10 512) .z))))))))
def a6b:Hint:=(tz (tz (tz (.pt (bN 7 80) .z))))
def a6c:Hint:=(tz (.two (tz (.one (.one (.pt (bN 4 9) (tz (.pt (bN 4 9) (tz (.pt (bN 4 9) .z)))))))) (.pt [ii] .z)))
def a6d:Hint:=(tz (.two (tz (.one (.one (.pt (bN 10 898) (tz (tz (.pt (bN 10 898) (.two (.one (tz (.two (.reg (el 39) (rb [0,1,3,7,15,7,39,127,255,511,7,1031,4095,8191,16383,32767,65535,32767,163839,524287,1048575,2097151,32767,4227071,16777215,33554431,67108863,134217727,67108863,335544319,1073741823,2147483647,4294967295,67108863,8657043455,34359738367,68719476735,137438953471,274877906943])) (.pt (bN 10 946) .z)))) (.pt (bN 10 898) .z))))))))) (.pt [] .z)))
def a6e:Hint:=(tz (tz (.two (tz (.one (.one (.pt (bN 10 906) (tz (tz (.pt (bN 10 906) (.two (.one (tz (tz (.pt (bN 10 930) .z)))) (.pt (bN 10 906) .z))))))))) (.pt [oo,ii] .z))))
def a6f:Hint:=(tz (tz (tz (.two (tz (.one (.one (.pt (bN 17 114732) (tz (tz (.pt (bN 17 114732) (tz (.pt (bN 17 114732) .z))))))))) (.pt (bN 6 44) (.two (tz (.one (.one (.pt (bN 33 7516192808) (tz (tz (.pt (bN 33 7516192808) (.two (.one (tz (tz (.pt (bN 33 7516193320) .z)))) (.pt (bN 33 7516192808) .z))))))))) (.pt (bN 6 32) .z)))))))
def a6g:Hint:=.z
def a6h:Hint:=.z
def a6i:Hint:=.z
def a6j:Hint:=(tz (tz (tz (.pt (bN 8 177) (.two (.reg (el 13) (rb [0,1,3,7,0,16,63,127,255,255,0,1535,4095])) (.two (.reg (rb [0,0,2,0,0]) (rb [0,0,1,7,15])) .z))))))
def a6k:Hint:=.z
def a6l:Hint:=(tz (tz (.pt [] .z)))
def a6m:Hint:=(tz (.two (.reg (el 11) (rb [0,1,3,0,15,31,63,63,0,383,1023])) (.two (.reg (el 11) (rb [0,1,3,0,15,31,63,63,0,383,1023])) (tz (.pt (bN 10 643) (.two (.reg (rb [0,0,0,0,0,8,0,0]) (rb [0,0,0,0,5,21,63,127])) .z))))))
def a6n:Hint:=(tz (.reg (el 8) (rb [0,1,3,7,0,16,0,127])))
def a6o:Hint:=(tz (tz (tz (.pt (bN 7 81) (.two (.reg (rb [0,0,0,0,0,0,0,0,0,0,0,0,0,0,0,0,0,0,0,0,0,0,0,0,8464,0,0,0,0,0,0]) (rb [0,1,3,7,15,0,63,127,255,0,512,1536,3584,7680,0,0,32768,98304,229376,491520,0,2064384,4161536,8355840,16760832,33553920,67108352,134217216,268435455,536870911,1073741823])) .z)))))
def a6p:Hint:=(tz (tz (tz (tz (tz (.pt (bN 6 60) .z))))))
def a6q:Hint:=(tz (.two (tz (.two (.two (.reg (rb [0,0,0,0,0,0,2,0,0]) (rb [0,1,0,4,0,16,60,127,255])) .z) .z)) (.pt (bN 5 28) (.two (tz (.two (.two (.reg (rb [0,0,0,0,0,0,2,0,0]) (rb [0,1,0,4,0,16,60,127,255])) .z) .z)) (.pt (bN 5 28) (tz (.two (.reg (rb [0,0,0,0,0,0,0,16,0,0]) (rb [0,1,3,7,15,31,63,0,255,511])) .z)))))))
def a6r:Hint:=.z
def a6s:Hint:=(tz (.two (tz (.one (.one (.pt (bN 6 35) (tz (.pt (bN 6 35) (tz (.pt (bN 6 35) .z)))))))) (.pt [] .z)))
def a6t:Hint:=(tz (.two (.two (.reg (rb [0,0,0,0,0,0,0,0,0,66,0,0,0,0]) (rb [0,1,0,4,12,28,60,0,0,384,1020,2044,4092,8191])) .z) (.pt (bN 6 32) (tz (.pt [] .z)))))
def a6u:Hint:=(tz (.two (.reg (rb [0,0,2,0,0,0,0,0,0,0]) (rb [0,1,0,7,15,31,63,63,255,511])) .z))
def a6v:Hint:=(tz (.two (.reg (rb [0,0,2,0,0,0,0,0,0,0,0]) (rb [0,1,0,7,15,31,63,127,127,511,1023])) .z))
def a6w:Hint:=(tz (.two (.reg (rb [0,0,2,0,0,0]) (rb [0,1,0,7,15,31])) .z))
def a6x:Hint:=(tz (.two (tz (.one (.one (.pt (bN 8 135) (tz (.pt (bN 8 135) (tz (.pt (bN 8 135) .z)))))))) (.pt [] .z)))
def a6y:Hint:=(tz (tz (.pt (bN 7 92) (tz (.pt (bN 7 92) (tz (.pt (bN 7 92) .z)))))))
def a6z:Hint:=.z
def a6A:Hint:=(tz (tz (.pt [ii] .z)))
def a6B:Hint:=(tz (tz (.pt [ii] .z)))
def a6C:Hint:=(tz (tz (.pt [ii] .z)))
def a6D:Hint:=(tz (tz (tz (.two (.one (.one (.pt (bN 9 451) (tz (.pt (bN 9 451) .z))))) (.pt (bN 8 195) .z)))))
def a6E:Hint:=(tz (tz (tz (tz (.pt (bN 8 135) (tz (tz (.pt (bN 9 391) (.two (tz (.two (tz (tz (.two (.reg (el 9) (rb [0,0,0,6,15,0,0,96,255])) .z))) .z)) (.pt (bN 9 391) (tz (.two (tz (.two (.two (.reg (el 9) (rb [0,0,0,6,15,0,0,96,255])) .z) .z)) (.pt (bN 9 391) .z)))))))))))))
def a6F:Hint:=(tz (tz (tz (tz (.pt (bN 8 135) (tz (tz (.pt (bN 9 391) (.two (tz (.two (tz (tz (.two (.reg (el 9) (rb [0,0,0,6,15,0,0,96,255])) .z))) .z)) (.pt (bN 9 391) (tz (.two (tz (.two (.two (.reg (el 9) (rb [0,0,0,6,15,0,0,96,255])) .z) .z)) (.pt (bN 9 391) .z)))))))))))))
def a6G:Hint:=(tz (tz (tz (tz (.pt (bN 8 135) (tz (tz (.pt (bN 9 391) (.two (tz (.two (tz (tz (.two (.reg (el 9) (rb [0,0,0,6,15,0,0,96,255])) .z))) .z)) (.pt (bN 9 391) (tz (.two (tz (.two (.two (.reg (el 9) (rb [0,0,0,6,15,0,0,96,255])) .z) .z)) (.pt (bN 9 391) .z)))))))))))))
def a6H:Hint:=(tz (tz (tz (.two (.one (.one (.pt (bN 9 451) (tz (.pt (bN 9 451) .z))))) (.pt (bN 8 195) .z)))))
def a6I:Hint:=(tz (tz (tz (tz (.pt (bN 8 135) (tz (tz (.pt (bN 9 391) (.two (tz (.two (tz (tz (.two (.reg (el 9) (rb [0,0,0,6,15,0,0,96,255])) .z))) .z)) (.pt (bN 9 391) (tz (.two (tz (.two (.two (.reg (el 9) (rb [0,0,0,6,15,0,0,96,255])) .z) .z)) (.pt (bN 9 391) .z)))))))))))))
def a6J:Hint:=(tz (tz (tz (tz (.pt (bN 8 135) (tz (tz (.pt (bN 9 391) (.two (tz (.two (tz (tz (.two (.reg (el 9) (rb [0,0,0,6,15,0,0,96,255])) .z))) .z)) (.pt (bN 9 391) (tz (.two (tz (.two (.two (.reg (el 9) (rb [0,0,0,6,15,0,0,96,255])) .z) .z)) (.pt (bN 9 391) .z)))))))))))))
def a6K:Hint:=(tz (tz (tz (.pt (bN 7 81) .z))))
def a6L:Hint:=.z
def a6M:Hint:=(tz (.two (tz (.one (.one (.pt (bN 11 1794) (tz (tz (.pt (bN 11 1794) (tz (.pt (bN 11 1794) .z))))))))) (.pt [] .z)))
def a6N:Hint:=(tz (tz (.pt [] .z)))
def a6O:Hint:=(tz (tz (.pt [] .z)))
def a6P:Hint:=(tz (.two (.reg (el 10) (rb [0,1,3,7,0,16,63,127,255,511])) (.two (.two (.reg (el 7) (rb [0,1,3,7,0,16,63])) (.two (.reg (rb [0,0,0,0,0,16,0,0,0,0,0,0,0]) (rb [0,0,2,6,14,0,62,126,254,254,511,1535,3583])) .z)) (.pt (bN 4 9) (.reg (rb [0,0,0,0,0,0,0,16,0,0,0,0,0,0,0]) (rb [0,0,2,6,14,0,32,96,254,510,1022,1022,2047,6143,14335]))))))
def a6Q:Hint:=.z
def a6R:Hint:=(.reg (rb [0,0,2,0,0,0]) (rb [0,1,0,7,0,31]))
def a6S:Hint:=(tz (.one (.one (.pt (bN 11 1798) (tz (tz (.pt (bN 11 1798) (tz (.pt (bN 11 1798) .z)))))))))
def a6T:Hint:=.z
def a6U:Hint:=.z
def j8R:Hint:=(.reg (rb [0,0,2,0,0,0]) (rb [0,1,0,7,0,31]))
def j8S:Hint:=(tz (.one (.one (.pt (bN 11 1798) (tz (tz (.pt (bN 11 1798) (tz (.pt (bN 11 1798) .z)))))))))
def j8T:Hint:=.z
def j8U:Hint:=.z
def j8V:Hint:=(.reg (rb [0,0,2,0,0,0]) (rb [0,1,0,7,0,31]))
def j8W:Hint:=(tz (.one (.one (.pt (bN 11 1798) (tz (tz (.pt (bN 11 1798) (tz (.pt (bN 11 1798) .z)))))))))
def j8X:Hint:=.z
def j8Y:Hint:=.z
def j8Z:Hint:=(tz (tz (tz (.pt (bN 7 81) .z))))
def j80:Hint:=(tz (tz (tz (.two (tz (.one (.one (.pt (bN 8 252) (tz (.pt (bN 8 252) (.two (.one (.two (.reg (el 10) (rb [0,1,3,0,8,24,63,0,255,511])) .z)) (.pt (bN 8 252) .z)))))))) (.pt (bN 6 48) .z)))))
def j81:Hint:=(tz (.two (tz (.one (.one (.pt (bN 6 44) (tz (.pt (bN 6 44) (.two (.one (.two (.reg (el 7) (rb [0,1,3,0,8,24,63])) (.two (.two (.two (.reg (el 7) (rb [0,1,3,0,8,24,63])) .z) (.pt [] .z)) .z))) (.pt (bN 6 44) .z)))))))) (.pt [] .z)))
def j82:Hint:=(tz (tz (tz (.two (tz (.one (.one (.pt (bN 8 252) (tz (.pt (bN 8 252) (.two (.one (.two (.reg (el 11) (rb [0,1,3,7,0,16,48,127,0,511,1023])) .z)) (.pt (bN 8 252) .z)))))))) (.pt (bN 6 48) .z)))))
def j83:Hint:=(tz (tz (tz (.pt (bN 5 20) .z))))
def j84:Hint:=(tz (.two (.reg (rb [0,0,0,0,0,0,0,0,0,0,64,0,0]) (rb [0,1,3,7,15,31,63,127,255,0,512,2047,4095])) .z))
def j85:Hint:=(tz (.two (.reg (rb [0,0,1,0,0,0]) (rb [0,0,2,7,0,31])) (tz (.pt (bN 6 32) (tz (.pt [] .z))))))
def j86:Hint:=(tz (tz (.pt (bN 7 92) (.two (.reg (rb [0,0,0,0,4,0,0,0,100,0,100,0,0,0,0,0,0,0,0,0,0]) (rb [0,1,3,0,8,31,63,0,128,0,512,1920,0,8064,16383,0,65535,131071,131071,524287,1048575])) .z))))
def j87:Hint:=.z
def j88:Hint:=.z
def j89:Hint:=.z
def j9a:Hint:=.z
def j9b:Hint:=.z
def j9c:Hint:=.z
def j9d:Hint:=.z
def j9e:Hint:=.z
def j9f:Hint:=.z
def j9g:Hint:=.z
def j9h:Hint:=.z
def j9i:Hint:=(tz (.two (tz (.one (.one (.pt (bN 5 22) (tz (.pt (bN 5 22) (tz (.pt (bN 5 22) .z)))))))) (.pt [oo,ii,ii] (tz (tz (tz (.pt (bN 7 100) (tz (.pt (bN 7 100) (tz (tz (tz (tz (.pt (bN 7 100) .z))))))))))))))
def j9j:Hint:=(tz (tz (tz (.pt (bN 7 82) .z))))
def j9k:Hint:=(tz (.two (tz (.two (.two (.reg (rb [0,0,0,1,0,0,0]) (rb [0,0,2,6,14,31,63])) .z) .z)) (.pt (bN 5 22) (tz (tz (tz (tz (.two (.reg (rb [0,0,0,4,0,0]) (rb [0,0,3,0,15,31])) (tz (.pt (bN 7 84) (.two (.reg (rb [0,0,0,0,0,0,0,16,0,0]) (rb [0,1,3,7,15,31,63,0,255,511])) .z)))))))))))
def j9l:Hint:=(tz (tz (.two (.reg (rb [0,0,0,0,0,0,0,0,0,0,128,0,0]) (rb [0,1,0,4,15,31,63,127,255,511,0,2047,4095])) .z)))
def j9m:Hint:=.z
def j9n:Hint:=.z
def j9o:Hint:=.z
def j9p:Hint:=.z
def j9q:Hint:=.z
def j9r:Hint:=.z
def j9s:Hint:=.z
def j9t:Hint:=.z
def j9u:Hint:=(tz (tz (.pt (bN 4 12) (tz (.pt (bN 4 12) .z)))))
def j9v:Hint:=(tz (.two (.reg (rb [0,0,0,0,0,0,0,0,0,18,0,0,0,0,0]) (rb [0,1,3,0,8,24,63,0,0,384,1023,2047,2047,8191,16383])) .z))
def j9w:Hint:=(tz (tz (tz (tz (.two (tz (.one (.one (.pt (bN 6 61) (tz (.pt (bN 6 61) (tz (.pt (bN 6 61) .z)))))))) (.pt (bN 4 12) .z))))))
def j9x:Hint:=(tz (.two (tz (.one (.one (.pt (bN 7 124) (tz (.pt (bN 7 124) (.two (.one (tz (.two (.reg (el 14) (rb [0,1,0,4,12,28,0,64,192,508,1020,2047,4095,8191])) .z))) (.pt (bN 7 124) .z)))))))) (.pt (bN 6 48) (.two (.reg (rb [0,0,2,0]) (rb [0,0,1,7])) .z))))
def j9y:Hint:=(tz (tz (.two (tz (.one (.one (.pt (bN 7 124) (tz (.pt (bN 7 124) (.two (.one (tz (tz (.one (.one (.pt (bN 9 508) (tz (.pt (bN 9 508) (.two (.one (.two (.reg (el 16) (rb [0,0,3,7,15,0,32,96,0,256,768,2016,4095,0,16383,32767])) .z)) (.pt (bN 9 508) .z)))))))))) (.pt (bN 7 124) .z)))))))) (.pt (bN 6 48) .z))))
def j9z:Hint:=(tz (.one (.one (.pt (bN 4 13) (tz (.pt (bN 4 13) (.two (.one (.reg (el 16) (rb [0,0,0,0,0,0,48,112,0,0,768,1792,4083,8179,16383,32767]))) (.pt (bN 4 13) .z))))))))
def j9A:Hint:=(tz (.one (.one (.pt (bN 4 13) (tz (.pt (bN 4 13) (.two (.one (.reg (el 16) (rb [0,0,0,0,0,0,48,112,0,0,768,1792,4083,8179,16383,32767]))) (.pt (bN 4 13) .z))))))))
def j9B:Hint:=(tz (.one (.one (.pt (bN 4 13) (tz (.pt (bN 4 13) (.two (.one (.reg (el 16) (rb [0,0,0,0,0,0,48,112,0,0,768,1792,4083,8179,16383,32767]))) (.pt (bN 4 13) .z))))))))
def j9C:Hint:=(tz (.one (.one (.pt (bN 4 13) (tz (.pt (bN 4 13) (.two (.one (.reg (el 16) (rb [0,0,0,0,0,0,48,112,0,0,768,1792,4083,8179,16383,32767]))) (.pt (bN 4 13) .z))))))))
def j9D:Hint:=(tz (.one (.one (.pt (bN 4 13) (tz (.pt (bN 4 13) (.two (.one (.reg (el 16) (rb [0,0,0,0,0,0,48,112,0,0,768,1792,4083,8179,16383,32767]))) (.pt (bN 4 13) .z))))))))
def j9E:Hint:=(tz (tz (tz (tz (.pt (bN 9 256) .z)))))
def j9F:Hint:=.z
def j9G:Hint:=(tz (tz (.pt (bN 5 25) .z)))
def j9H:Hint:=(tz (tz (.pt [ii,oo,ii] (tz (.two (.one (.one (.pt (bN 5 21) (tz (.pt (bN 5 21) (tz (.pt (bN 5 21) .z))))))) (.pt (bN 5 20) .z))))))
def j9I:Hint:=(tz (.two (tz (.two (.two (.reg (rb [0,0,2,0,0]) (rb [0,0,1,7,15])) .z) .z)) (.pt (bN 6 60) (tz (tz (tz (.two (tz (tz (tz (tz (.one (.one (.pt (bN 16 65084) (tz (.pt (bN 16 65084) (.two (.one (.two (.reg (el 14) (rb [0,0,3,0,8,0,32,120,255,0,0,1536,511,8191])) .z)) (.pt (bN 16 65084) .z))))))))))) (.pt (bN 15 30780) (tz (tz (.pt (bN 15 24628) (tz (.two (.reg (rb [0,0,2,0,0]) (rb [0,0,1,7,15])) .z)))))))))))))
def j9J:Hint:=(tz (tz (.pt [ii,ii,ii] (tz (.pt [ii,ii,ii] (.two (tz (.two (.two (.reg (el 8) (rb [0,0,3,0,0,24,7,127])) .z) .z)) (.pt [ii,ii,ii] (tz (tz (tz (tz (tz (tz (tz (tz (tz (tz (.two (.one (.one (.pt (bN 17 126724) (tz (.pt (bN 17 126724) .z))))) (.pt (bN 16 61188) (tz (tz (tz (.two (.one (.one (.pt (bN 19 509700) (tz (.pt (bN 19 509700) .z))))) (.pt (bN 19 442628) .z))))))))))))))))))))))))
def j9K:Hint:=(tz (.two (tz (.two (.two (.reg (el 7) (rb [0,1,3,0,8,7,63])) .z) .z)) (.pt [oo,ii] .z)))
def j9L:Hint:=.z
def j9M:Hint:=.z
def j9N:Hint:=(tz (.two (tz (.two (tz (.pt (bN 7 70) .z)) .z)) (.pt (bN 7 70) (tz (.pt (bN 7 70) .z)))))
def j9O:Hint:=.z
def j9P:Hint:=(tz (tz (.pt [ii,oo,ii] (tz (.pt [ii,oo,ii] (tz (.pt [ii,oo,ii] .z)))))))
def j9Q:List (Option Hint):=[none,none,none,some a8t,none,none,none,some a8u,some a8v,some a8w,some a5w,some a5x,some a5y,some a5z,some a5A,some a5B,some a5C,none,some a5D,none,some a5E,some a5F,some a5G,none,none,some a5H,some a5I,some a5J,some a5K,some a5L,some a5M,some a5N,some a5O,some a5P,some a5Q,some a5R,some a5S,some a5T,some a5U,some a5V,some a5W,some a5X,some a5Y,some a5Z,some a6a,some a6b,some a6c,some a6d,some a6e,some a6f,some a6g,some a6h,some a6i,some a6j,some a6k,some a6l,none,some a6m,some a6n,none,none,none,none,none,some a6o,none,none,none,some a6p,some a6q,some a6r,some a6s,some a6t,some a6u,some a6v,some a6w,some a6x,some a6y,some a6z,some a6A,some a6B,some a6C,some a6D,some a6E,some a6F,some a6G,some a6H,some a6I,some a6J,some a6K,some a6L,some a6M,some a6N,some a6O,some a6P,some a6Q,some a6R,some a6S,some a6T,some a6U,some j8R,some j8S,some j8T,some j8U,some j8V,some j8W,some j8X,some j8Y,some j8Z,none,none,some j80,some j81,some j82,some j83,some j84,some j85,some j86,some j87,some j88,none,some j89,none,some j9a,none,some j9b,some j9c,some j9d,none,some j9e,none,some j9f,some j9g,some j9h,none,some j9i,some j9j,some j9k,some j9l,some j9m,some j9n,some j9o,some j9p,some j9q,some j9r,some j9s,some j9t,some j9u,none,some j9v,none,some j9w,some j9x,some j9y,some j9z,some j9A,some j9B,some j9C,some j9D,some j9E,none,some j9F,none,some j9G,some j9H,some j9I,some j9J,some j9K,some j9L,some j9M,some j9N,some j9O,some j9P,none,none,none,none,none,none,none,none,none,none,none,none,none,none,none,none,none,none,none,none,none,none,none]
def hints (f:FuncId):Option Hint:=(j9Q[f]?).getD none
end
end Go.Proofs.YtlginbmjiecglaaGreatDoor
namespace Go.Abs
section
open Go Go.RowKit Go.ChangeShapes
section
variable {P:Program} {H:Type} {enc:TypeId×Value->H}
theorem q5u (hl:laidOutB P=true) {W W':World} (hb:Below W.heap.size W W'):∀{ts:List TypeId} {vs:List Value} {ds:List (DataW H)} {ps:List MemPlace},
  (∀t∈ts,P.readableRec t=true/\t<P.types.size)->DataW.TrodAll enc P W 0 (fun _=>true) true ts vs ds ps->(∀x∈ps,x.block<W.heap.size)->
  DataW.TrodAll enc P W' 0 (fun b=>decide (b<W.heap.size)) true ts vs ds ps
 |[],[],[],_,_,h,_=>h
 |[],_::_,_,_,_,h,_=>by simp[DataW.TrodAll]at h
 |[],[],_::_,_,_,h,_=>by simp[DataW.TrodAll]at h
 | _::_,[],_,_,_,h,_=>by simp[DataW.TrodAll]at h
 | _::_,_::_,[],_,_,h,_=>by simp[DataW.TrodAll]at h
 |t::ts,v::vs,d::ds,ps,ht,h,hlt=>by
  obtain⟨p,q,h1,h2,rfl⟩:=h;exact⟨p,q,Below.trod hl (ht t (by simp)).1 (ht t (by simp)).2 h1 hb (fun x hx=>hlt x (by simp[hx])),
   q5u hl hb (fun t' h'=>ht t' (by simp[h'])) h2 (fun x hx=>hlt x (by simp[hx])),rfl⟩
theorem j33 (hl:laidOutB P=true) {fn:Func} (hts:∀t∈fn.params.toList,P.readableRec t=true/\t<P.types.size) {tb:TypeId} (hrt:fn.resultTypes=#[tb]) (htb:P.underlying tb=some .bool) {s:ChangeSpec} (hv:s.vars=[])
  {apart:Bool} {W W':World} {args:Array Value} {ds gs:List (DataW H)} {before:List MemPlace} (hW:DataW.Whole enc P fn.params.toList s.vars apart W args.toList ds gs before)
  (hfn:s.fn H (ds++gs)={results:=[.lit (.bool true)],args:=ds}) (hb:Below W.heap.size W W'):s.post enc P fn apart true false false W args (.bool true) W':=by
 have hlt:∀x∈before,x.block<W.heap.size:=fun x hx=>hW.lt x hx
 obtain⟨p,q,hA,hV,e,hz,hn⟩:=id hW;rw[hv]at hV;obtain⟨rfl,rfl⟩:=trodVars_none hV;simp only[List.append_nil]at e hfn;subst e;refine⟨ds,[],before,[],before,[],by simpa using hW,?_,?_,?_,hb.frame _,fun h=>by cases h⟩
 ·simp only[List.append_nil,hfn,hrt];exact trodAll_mk1 (shut_bool htb true)
 ·simp only[List.append_nil,hfn];exact q5u hl hb hts hA hlt
 ·simp only[List.append_nil,hfn,hv];rfl
end
end
section
open Go
def marks:AC->List AI->List (List AI)
 | .pt _ c,k=>(.code c::k)::marks c k
 | .seq a b,k=>marks a (.code b::k)++marks b k
 | .cond _ x y,k=>marks x k++marks y k
 | .block id b,k=>marks b (.inBlock id::k)
 | .loop b,k=>marks b (.inLoop b::k)
 | .scope b,k=>marks b (.inScope b::k)
 | .rangeFunc _ _ a b,_=>marks a [.beginRound,.code b]++marks b []
 | _,_=>[]
def loops:AC->List (List Tmp×AC×AC)
 | .pt _ c=>loops c
 | .seq a b=>loops a++loops b
 | .cond _ x y=>loops x++loops y
 | .block _ b=>loops b
 | .loop b=>loops b
 | .scope b=>loops b
 | .rangeFunc _ ps a b=>(ps,a,b)::(loops a++loops b)
 | _=>[]
def q35:AC->List AI->List (List AI)
 | .pt _ c,k=>q35 c k
 | .seq a b,k=>q35 a (.code b::k)++q35 b k
 | .cond _ x y,k=>q35 x k++q35 y k
 | .block id b,k=>q35 b (.inBlock id::k)
 | .loop b,k=>q35 b (.inLoop b::k)
 | .scope b,k=>q35 b (.inScope b::k)
 | .rangeFunc _ _ a b,k=>k::(q35 a [.beginRound,.code b]++q35 b [])
 | _,_=>[]
def codeOf (E:Env) (f:FuncId):AC:=
 match E.B f with
 |some (_,_,c)=>c
 |none=>.skip
def q1l (E:Env) (f:FuncId):List ResultVar:=
 match E.B f with
 |some (rs,_,_)=>rs
 |none=>[]
def z1q (E:Env) (f:FuncId):Nat:=
 match E.B f with
 |some (_,n,_)=>n
 |none=>0
def kAt (E:Env) (f i:Nat):List AI:=((marks (codeOf E f) [])[i]?).getD []
def q0t (E:Env) (f i:Nat) (t:List AV):q8j:=
 match (loops (codeOf E f))[i]? with
 |some (ps,a,b)=>⟨.ready,none,t,ps,a,b⟩
 |none=>⟨.ready,none,t,[],.skip,.skip⟩
def j9X (E:Env) (f i:Nat):List AI:=((q35 (codeOf E f) [])[i]?).getD []
noncomputable def z6d (E:Env) (f i:Nat) (j:Option Jmp) (t:List AV) (m:Mem):R:=go E (.fn (q1l E f)) (pend j (j9X E f i)) t m
noncomputable def q7u (E:Env) (f i:Nat) (t:List AV) (m:Mem):R:=go E (.fn (q1l E f)) (kAt E f i) t m
theorem q1f {E:Env} {f i:Nat} (n:Nat) {t:List AV} {m:Mem} {r:R} (h:goC E (run E) (.fn (q1l E f)) (go E (.fn (q1l E f))) n (kAt E f i) t m=r):q7u E f i t m=r:=
 (q62 _ n _ _ _).trans h
theorem z4F {E:Env} {f i:Nat} {j:Option Jmp} (n:Nat) {t:List AV} {m:Mem} {r:R} (h:goC E (run E) (.fn (q1l E f)) (go E (.fn (q1l E f))) n (pend j (j9X E f i)) t m=r):z6d E f i j t m=r:=
 (q62 _ n _ _ _).trans h
theorem run_eq {E:Env} {f:Nat} (n:Nat) {args:List AV} {m:Mem} {r:R} (hH:E.H f=none) (hB:(E.B f).isSome=true)
  (h:goC E (run E) (.fn (q1l E f)) (go E (.fn (q1l E f))) n [.code (codeOf E f)] (args++List.replicate (z1q E f-args.length) .undef) m=r):run E (.fn f) args m=r:=by
 cases e:E.B f with
 |none=>simp[e]at hB
 |some b=>
  obtain⟨rs,nt,c⟩:=b;rw[z4r hH e];simp only[q1l,codeOf,z1q,e]at h;exact(q62 _ n _ _ _).trans h
def ifV (v:AV) (x y:R):R:=
 match v with
 | .bool true=>x
 | .bool false=>y
 | _=>none
def q0N (x:AV):Option (Blk×(Nat->AV)):=((some x).bind AV.cells).map fun cs=>(.cells cs false,fun b=>.ptr (some ⟨b,0⟩))
def bsA (n len:Nat) (zs:List AV) (ps:List (Nat×AV)):Option (Blk×(Nat->AV)):=
 (some ps).bind fun ps=>(q0n (fun i=>some (i*n,n)) (List.replicate len zs).flatten ps).map fun cs=>(.cells cs false,fun b=>.sl (some ⟨b,0⟩) n len len true)
end
section
open Go
def Fr (m m':Mem) (S:List Nat):Prop:=m.next<=m'.next/\∀c,c<m.next->c∉S->m'.get c=m.get c
theorem Fr.refl (m:Mem):Fr m m []:=⟨xnr _,fun _ _ _=>rfl⟩
theorem Fr.mono {m m':Mem} {S T:List Nat} (h:Fr m m' S) (hs:∀c,c∈S->c<m.next->c∈T):Fr m m' T:=
 ⟨h.1,fun c hc hn=>h.2 c hc fun hm=>hn (hs c hm hc)⟩
theorem Fr.trans {m m' m'':Mem} {S S' T:List Nat} (h:Fr m m' S) (h':Fr m' m'' S') (hs:∀c,c∈S->c<m.next->c∈T) (hs':∀c,c∈S'->c<m.next->c∈T):Fr m m'' T:=
 ⟨xnt0 h.1 h'.1,fun c hc hn=>(h'.2 c (Nat.lt_of_lt_of_le hc h.1) fun hm=>hn (hs' c hm hc)).trans (h.2 c hc fun hm=>hn (hs c hm hc))⟩
theorem Fr.get {m m':Mem} {S:List Nat} (h:Fr m m' S) {c:Nat} {v:Blk} (hc:m.get c=some v) (hn:c∉S):m'.get c=some v:=by
 rw[h.2 c (Mem.q0v hc) hn];exact hc
theorem Fr.alloc (m:Mem) (cs:List AV):Fr m (m.alloc cs) []:=⟨Nat.le_succ _,fun c hc _=>by rw[Mem.q0E,if_neg (by omega)]⟩
theorem Fr.put (m:Mem) (b:Nat) (v:Option Blk):Fr m (m.put b v) [b]:=⟨xnr _,fun c _ hn=>by rw[Mem.get_put,if_neg];intro h;exact hn (by simp[h.1])⟩
def Sl (m:Mem) (s:AV) (l:List AV):Prop:=
 (∃sz ex,s=.sl none sz 0 0 ex/\l=[])\/
 ∃a sz cap ex cs ro,s=.sl (some a) sz l.length cap ex/\(1=sz\/ex=true)/\l.length<=cap/\m.get a.b=some (.cells cs ro)/\a.o+l.length<=cs.length/\(cs.drop a.o).take l.length=l
def Row (m:Mem) (s:AV) (l:List AV) (rb:Option Nat):Prop:=
 ((∃sz ex,s=.sl none sz 0 0 ex)/\l=[]/\rb=none)\/
 ∃b sp ex,rb=some b/\s=.sl (some ⟨b,0⟩) 1 l.length (l.length+sp.length) ex/\m.get b=some (.cells (l++sp) false)
theorem Row.sl {m:Mem} {s:AV} {l:List AV} {rb:Option Nat} (h:Row m s l rb):Sl m s l:=by
 rcases h with ⟨⟨sz,ex,rfl⟩,rfl,_⟩|⟨b,sp,ex,_,rfl,h⟩
 ·exact .inl ⟨_,_,rfl,rfl⟩
 ·exact .inr ⟨_,_,_,_,_,_,rfl,.inl rfl,by omega,h,by simp,by simp⟩
theorem Row.frame {m m':Mem} {s:AV} {l:List AV} {rb:Option Nat} {S:List Nat} (h:Row m s l rb) (hf:Fr m m' S) (hd:∀b,rb=some b->b∉S):Row m' s l rb:=by
 rcases h with h|⟨b,sp,ex,h1,h2,h3⟩
 ·exact .inl h
 ·exact .inr ⟨b,sp,ex,h1,h2,hf.get h3 (hd b h1)⟩
theorem Row.lt {m:Mem} {s:AV} {l:List AV} {b:Nat} (h:Row m s l (some b)):b<m.next:=by
 rcases h with ⟨_,_,h⟩|⟨b',sp,ex,h1,h2,h3⟩
 ·cases h
 ·cases h1;exact Mem.q0v h3
theorem Sl.len {m:Mem} {s:AV} {l:List AV} (h:Sl m s l):∃a sz cap ex,s=.sl a sz l.length cap ex:=by
 rcases h with ⟨sz,ex,rfl,rfl⟩|⟨a,sz,cap,ex,cs,ro,rfl,_⟩
 ·exact⟨_,_,_,_,rfl⟩
 ·exact⟨_,_,_,_,rfl⟩
theorem Sl.src {m:Mem} {x:AV} {l:List AV} (h:Sl m x l):q3Q 1 x m=some (l.length,l):=by
 rcases h with ⟨sz,ex,rfl,rfl⟩|⟨a,sz,cap,ex,cs,ro,rfl,hs,h0,h1,h2,h3⟩
 ·rfl
 ·simp[q3Q,q0y,h1,h2,h3,show sz=1\/ex=true from hs.imp Eq.symm id]
theorem Sl.frame {m m':Mem} {s:AV} {l:List AV} {S:List Nat} (h:Sl m s l) (hf:Fr m m' S) (hd:∀a sz n c ex,s=.sl (some a) sz n c ex->a.b∉S):Sl m' s l:=by
 rcases h with h|⟨a,sz,cap,ex,cs,ro,h0,hs,h1,h2,h3,h4⟩
 ·exact .inl h
 ·exact .inr ⟨a,sz,cap,ex,cs,ro,h0,hs,h1,hf.get h2 (hd _ _ _ _ _ h0),h3,h4⟩
end
section
open Go
section
variable {P:Program} {W:World} {H:Type} {enc:TypeId×Value->H} {t e:TypeId} {v:Value} {base:Nat}
theorem z1x {k:IntKind} (ht:P.underlying t=some (.int k)) (h:Value.okWide P W .any base t v):∃n,v=.int k n/\k.min<=n/\n<=k.max:=by
 unfold Value.okWide at h;simp only[ht]at h;unfold Cell.okWide at h;simp only[ht]at h;unfold Cell.ok at h;simp only[ht]at h;cases v<;>simp only at h<;>first|exact h.elim|skip
 obtain⟨rfl,h⟩:=h;exact⟨_,rfl,h⟩
theorem trod_int {k:IntKind} {b:Nat} {sp:Nat->Bool} {held:Bool} {m:Nat} {V:Value} {x:DataW H×List MemPlace} (ht:P.underlying t=some (.int k))
  (h:DataW.trod enc P W b sp held m t [V]=some x):∃n,V=.int k n/\k.min<=n/\n<=k.max:=by
 cases m with
 |zero=>simp[DataW.trod]at h
 |succ m=>
  simp only[DataW.trod,ht]at h;cases V<;>simp only at h<;>first|(cases h;done)|skip
  split at h
  ·rename_i h1;obtain⟨rfl,h1⟩:=h1;simp only[Lit.wf,Bool.and_eq_true,decide_eq_true_eq]at h1;exact⟨_,rfl,h1⟩
  ·cases h
theorem mapM_mem {α β:Type} {f:α->Option β}:∀{l:List α} {r:List β},l.mapM f=some r->∀x∈l,∃y,f x=some y:=by
 intro l r h x hx;obtain⟨i,hi,rfl⟩:=List.mem_iff_getElem.1 hx;have h1:=mapM_some_get h i l[i] (by simp);have h2:=mapM_some_length h;rw[xgq (by omega)]at h1;exact⟨_,h1⟩
theorem trod_struct {fs:Array Field} {b:Nat} {sp:Nat->Bool} {held:Bool} {m:Nat} {cs:List Value} {x:DataW H×List MemPlace} (ht:P.underlying t=some (.struct fs))
  (h:DataW.trod enc P W b sp held m t cs=some x) :
  ∃m',cs.length=P.cellsOf t/\∀f∈fs.toList,∃y,DataW.trod enc P W b sp held m' f.type ((cs.drop f.offset).take (P.cellsOf f.type))=some y:=by
 cases m with
 |zero=>simp[DataW.trod]at h
 |succ m=>
  simp only[DataW.trod,ht]at h;split at h
  ·rename_i h1;obtain⟨r,h2,_⟩:=xoe.1 h;exact⟨m,h1,fun f hf=>mapM_mem h2 f hf⟩
  ·cases h
theorem q6e {a:Addr} (h:a.spot=none) (n:Nat):a.add n=⟨a.block,a.off+n,none⟩:=by
 unfold Addr.add;split
 ·rename_i e;subst e;cases a;simp_all
 ·rfl
theorem z6h {d:DataW H} {p:List MemPlace} (ht:P.underlying t=some (.slice e)) (h:Value.okWide P W .any base t v) (hr:DataW.Trod enc P W 0 (fun _=>true) true t v d p) :
  z1p W v=.sl none 0 0 0 true\/
  ∃(a:AA) (len cap:Nat) (cs:List Value),z1p W v=.sl (some a) 0 len cap true/\len<=cap/\(q8k W).get a.b=some (.cells (cs.map (absP W)) true)/\
   ∃m,∀i,i<cap->((cs.drop (a.o+i*P.cellsOf e)).take (P.cellsOf e)).length=P.cellsOf e/\
    ∃y,DataW.trod enc P W 0 (fun _=>true) true m e ((cs.drop (a.o+i*P.cellsOf e)).take (P.cellsOf e))=some y:=by
 unfold Value.okWide at h;simp only[ht]at h;unfold Cell.okWide at h;simp only[ht]at h;unfold Cell.ok at h;simp only[ht]at h;obtain⟨fuel,hr⟩:=hr;cases v<;>first|exact False.elim h|skip
 rename_i a len cap;cases a with
 |none=>
  left;cases len with
  |zero=>cases cap with
   |zero=>rfl
   |succ n=>exact False.elim h
  |succ n=>exact False.elim h
 |some a=>
  right;simp only at h;obtain⟨h1,h2,_,h3,row,n,h4,h5⟩:=h;unfold World.shape? at h4;split at h4
  ·rename_i c el fr hc;rcases Go.Deep.open_slice ht hr with ⟨h6,_⟩|⟨a',len',cap',mm,n',D,Pl,h6,_,_,_,h7,_,h8⟩
   ·simp[Value.cells]at h6
   ·simp only[Value.cells,List.cons.injEq,and_true]at h6;injection h6 with e1 e2 e3
    cases e1;subst e2;subst e3;refine⟨⟨a.block,a.off⟩,len,cap,c.toList,?_,h1,?_,n',fun i hi=>?_⟩
    ·simp[z1p,absP,h3,isCells,hc,h1]
    ·rw[q4e,q4v,hc]
    ·obtain⟨cs',h9,h10⟩:=h8 i (by rw[h7];simpa using hi);obtain⟨_,h11,h12⟩:=World.cells?_some h9;have:(c.toList.drop (a.off+i*P.cellsOf e)).take (P.cellsOf e)=cs':=by
      apply List.ext_getElem?;intro j;rw[List.getElem?_take,List.getElem?_drop];split
      ·rename_i hj;rw[<-h12 j hj];rw[q6e h3,q6e rfl];simp[World.cell?,hc]
      ·rw[List.getElem?_eq_none (by omega)]
     simp only;rw[this];exact⟨h11,_,h10⟩
  ·cases h4
end
theorem q19 {P:Program} {W:World} {H:Type} {enc:TypeId×Value->H} {b:Nat} {sp:Nat->Bool} {held:Bool} {t:TypeId} {ts:List TypeId} {vs:List Value} {ds:List (DataW H)} {ps:List MemPlace}
  (h:DataW.TrodAll enc P W b sp held (t::ts) vs ds ps):∃v vs' d ds' p p',vs=v::vs'/\ds=d::ds'/\DataW.Trod enc P W b sp held t v d p/\DataW.TrodAll enc P W b sp held ts vs' ds' p':=by
 match vs,ds,h with
 |v::vs,d::ds,⟨p,q,h1,h2,_⟩=>exact⟨v,vs,d,ds,p,q,rfl,rfl,h1,h2⟩
theorem z4G {P:Program} {W:World} {H:Type} {enc:TypeId×Value->H} {b:Nat} {sp:Nat->Bool} {held:Bool} {vs:List Value} {ds:List (DataW H)} {ps:List MemPlace}
  (h:DataW.TrodAll enc P W b sp held [] vs ds ps):vs=[]/\ds=[]:=by
 match vs,ds,h with
 |[],[],_=>exact⟨rfl,rfl⟩
end
section
open Go
section
variable {P:Program}
theorem q6Q {f : FuncId} {fn : Func} {e : Array Value → Sem Value} (hf : P.funcs[f]? = some fn) (hname : (fn.name == "runtime.NumGoroutine") = false) (hb : fn.body.isNone = true) (hn : Extern.findNext fn = none) (he : Extern.find fn = some e)
  {args:List AV} {m:Mem} {r:AV} {m':Mem} (h0:m.next<=m'.next) (h:∀(p:Phi) (w:World) (cargs:List Value),MR P p m w->GP P<=m.next->q5x p m.next m'.next->VRs p args cargs->
   ∃cv w' p',(e ⟨cargs⟩).run P w=.ok cv w'/\VR p' r cv/\Sim P p m w p' m' w'):z6b P (.fn f) args m r m':=by
 refine⟨h0,fun p w cargs hm hG hf2 hv=>.inr ?_⟩
 obtain⟨cv,w',p',h1,h2,h3⟩:=h p w cargs hm hG hf2 hv;refine⟨cv,w',p',?_,h2,h3⟩;rw[run_callFunc_extern hf hname hb hn he,h1];rfl
def q4w (args:List AV) (m:Mem):R:=
 match args with
 |[.int .u64 x,.int .u64 y,.int .u64 c]=>
  if 0<=x/\0<=y/\0<=c/\c<=1 then some (.tup [.int .u64 ((x+y+c) % 18446744073709551616),.int .u64 ((x+y+c) / 18446744073709551616)],m) else none
 | _=>none
theorem q8l {f : FuncId} {fn : Func} (hf : P.funcs[f]? = some fn) (hname : (fn.name == "runtime.NumGoroutine") = false) (hb : fn.body.isNone = true) (hn : Extern.findNext fn = none) (he : Extern.find fn = some add64Entry)
  (args:List AV) (m:Mem) (r:AV) (m':Mem) (h:q4w args m=some (r,m')):z6b P (.fn f) args m r m':=by
 unfold q4w at h;split at h
 ·rename_i x y c;split at h
  ·rename_i hc;cases h;refine q6Q hf hname hb hn he (xnr _) fun p w cargs hm hG hf2 hv=>?_
   simp only[VRs,VR]at hv;obtain⟨_,_,rfl,rfl,_,_,rfl,rfl,_,_,rfl,rfl,rfl⟩:=hv;refine⟨_,w,p,run_add64 x y c hc.1 hc.2.1 hc.2.2.1 hc.2.2.2 w,?_,Sim.refl hm⟩;simp only[VR,VRs];exact⟨_,rfl,_,_,rfl,rfl,_,_,rfl,rfl,rfl⟩
  ·cases h
 ·cases h
def sub64Entry:Array Value->Sem Value:=fun args=>do
 let (x, y, b) ← Extern.MathBitsCarry.three "Sub64" args
 pure (Extern.MathBitsCarry.pair ((x+Extern.MathBitsCarry.m64-y-b) % Extern.MathBitsCarry.m64) (if x<y+b then 1 else 0))
theorem run_sub64 (x y c:Int) (hx:0<=x) (hy:0<=y) (hy2:y<18446744073709551616) (hc0:0<=c) (hc:c<=1) (w:World) :
  (sub64Entry #[.int .u64 x,.int .u64 y,.int .u64 c]).run P w =
   .ok (.tuple #[.int .u64 ((x-y-c) % 18446744073709551616),.int .u64 (if x<y+c then 1 else 0)]) w:=by
 have key:∀k:Nat,k<=1->(sub64Entry #[.int .u64 x,.int .u64 y,.int .u64 (k:Int)]).run P w =
   .ok (Extern.MathBitsCarry.pair ((x.toNat+Extern.MathBitsCarry.m64-y.toNat-k) % Extern.MathBitsCarry.m64) (if x.toNat<y.toNat+k then 1 else 0)) w:=by
  intro k hk;have:k=0\/k=1:=by omega
  rcases this with rfl|rfl<;>rfl
 obtain⟨k,rfl⟩:=Int.eq_ofNat_of_zero_le hc0;rw[key k (by omega)];obtain⟨X,rfl⟩:=Int.eq_ofNat_of_zero_le hx;obtain⟨Y,rfl⟩:=Int.eq_ofNat_of_zero_le hy;simp only[Extern.MathBitsCarry.pair,Extern.MathBitsCarry.m64,Int.toNat_natCast];have h1:Int.ofNat ((X+2 ^ 64-Y-k) % 2 ^ 64)=((X:Int)-(Y:Int)-(k:Int)) % 18446744073709551616:=by
  simp only[Int.ofNat_eq_natCast,Int.natCast_emod];omega
 have h2:Int.ofNat (if X<Y+k then 1 else 0)=if (X:Int)<(Y:Int)+(k:Int) then 1 else 0:=by
  by_cases h:X<Y+k
  ·rw[if_pos h,if_pos (by omega)];rfl
  ·rw[if_neg h,if_neg (by omega)];rfl
 rw[h1,h2]
def q7q (args:List AV) (m:Mem):R:=
 match args with
 |[.int .u64 x,.int .u64 y,.int .u64 c]=>
  if 0<=x/\0<=y/\y<18446744073709551616/\0<=c/\c<=1 then some (.tup [.int .u64 ((x-y-c) % 18446744073709551616),.int .u64 (if x<y+c then 1 else 0)],m) else none
 | _=>none
theorem q9G {f : FuncId} {fn : Func} (hf : P.funcs[f]? = some fn) (hname : (fn.name == "runtime.NumGoroutine") = false) (hb : fn.body.isNone = true) (hn : Extern.findNext fn = none) (he : Extern.find fn = some sub64Entry)
  (args:List AV) (m:Mem) (r:AV) (m':Mem) (h:q7q args m=some (r,m')):z6b P (.fn f) args m r m':=by
 unfold q7q at h;split at h
 ·rename_i x y c;split at h
  ·rename_i hc;cases h;refine q6Q hf hname hb hn he (xnr _) fun p w cargs hm hG hf2 hv=>?_
   simp only[VRs,VR]at hv;obtain⟨_,_,rfl,rfl,_,_,rfl,rfl,_,_,rfl,rfl,rfl⟩:=hv;refine⟨_,w,p,run_sub64 x y c hc.1 hc.2.1 hc.2.2.1 hc.2.2.2.1 hc.2.2.2.2 w,?_,Sim.refl hm⟩;simp only[VR,VRs];exact⟨_,rfl,_,_,rfl,rfl,_,_,rfl,rfl,rfl⟩
  ·cases h
 ·cases h
noncomputable def q0I (args:List AV) (m:Mem):R:=
 match args with
 |[.sl (some a) _ _ _ _,.sl (some b) _ _ _ _]=>
  if a.b=b.b then none else
  match m.get a.b,m.get b.b with
  |some (.cells _ false),some (.cells (_::_) _)=>some (.bool false,m)
  | _,_=>none
 | _=>none
theorem q0R {f : FuncId} {fn : Func} {st tr e : TypeId} {sz : Nat} (hf : P.funcs[f]? = some fn) (hname : (fn.name == "runtime.NumGoroutine") = false) (hb : fn.body.isNone = true) (hn : Extern.findNext fn = none)
  (he:Extern.find fn=some (Extern.SlicesOverlaps.overlaps #[st,st] #[tr])) (ht:P.underlying st=some (.slice e)) (hsz:szT P e=some sz)
  (args:List AV) (m:Mem) (r:AV) (m':Mem) (h:q0I args m=some (r,m')):z6b P (.fn f) args m r m':=by
 unfold q0I at h;split at h
 ·rename_i a sa la ca xa b sb lb cb xb;split at h
  ·cases h
  ·rename_i hne;split at h
   ·rename_i cs d ds ro ha hbb;cases h;refine q6Q hf hname hb hn he (xnr _) fun p w cargs hm hG hf2 hv=>?_
    simp only[VRs,VR,SR]at hv;obtain⟨_,_,rfl,⟨ci,off,cap,h1,rfl,_⟩,_,_,rfl,⟨ci2,off2,cap2,h2,rfl,_⟩,rfl⟩:=hv;obtain⟨arr,el,fr,g1,g2,g3,_⟩:=hm.live _ _ _ _ ha h1;obtain⟨arr2,el2,fr2,q1,q2,_,q4⟩:=hm.live _ _ _ _ hbb h2;have g3:=g3 rfl;have hc:ci.c≠ci2.c:=by
     intro e;rcases hm.inj a.b ci b.b ci2 (by rw[ha];rfl) h1 h2 e with e'|⟨_,e'⟩
     ·exact hne e'
     ·rw[hbb]at e';cases e'
    have hk:arr2.size≠0:=by
     obtain⟨v,hv,_⟩:=q4 0 d rfl;have:=(Array.getElem?_eq_some_iff.1 hv).1;omega
    refine⟨.bool false,w,p,?_,by simp[VR],Sim.refl hm⟩;refine Lib.run_overlaps_apart (P:=P) w st tr e ht sz (fun w=>q08 hsz w) ⟨ci.c,off,none⟩ ⟨ci2.c,off2,none⟩ la cap lb cap2 hc el el2 arr.size arr2.size ?_ ?_ hk ?_ ?_
    ·simp[World.shape?,g1]
    ·simp[World.shape?,q1]
    ·simp only[World.frozen?,g1];have:=g3 off;simp only[Bool.and_eq_false_iff,decide_eq_false_iff_not];by_cases h:fr.1<=off
     ·exact .inr fun h'=>this ⟨h,h'⟩
     ·exact .inl h
    ·simp only[World.frozen?,g1];have:=g3 arr.size;simp only[Bool.and_eq_false_iff,decide_eq_false_iff_not];by_cases h:fr.1<=arr.size
     ·exact .inr fun h'=>this ⟨h,h'⟩
     ·exact .inl h
   ·cases h
 ·cases h
end
end
section
open Go
section
variable {P:Program}
theorem MR.congr {p:Phi} {m m2:Mem} {w:World} (h:MR P p m w) (hn:m.next=m2.next) (hg:∀b,m.get b=m2.get b):MR P p m2 w where
 has:=fun b v ci h1 h2=>h.has b v ci (by rw[hg];exact h1) h2
 inj:=fun b ci b2 ci2 h1 h2 h3 h4=>by rw[<-hg]at h1⊢;rw[<-hn];exact h.inj b ci b2 ci2 h1 h2 h3 h4
 bnd:=h.bnd
 q2O:=h.q2O
theorem Sim.congr {p p':Phi} {m m1 m2:Mem} {w w':World} (h:Sim P p m w p' m1 w') (hn:m1.next=m2.next) (hg:∀b,m1.get b=m2.get b):Sim P p m w p' m2 w' where
 le:=h.le
 out:=fun b hb=>h.out b (by rw[hn];exact hb)
 next:=by rw[<-hn];exact h.next
 rel:=h.rel.congr hn hg
 q34:=fun b h1 h2=>by rw[<-hg];exact h.q34 b h1 h2
 dead:=fun b h1 h2=>by rw[<-hg];exact h.dead b h1 h2
 q28:=h.q28
 fresh:=fun b ci h1 h2 h3=>h.fresh b ci h1 (by rw[hn];exact h2) h3
 ro:=fun b cs ci h1 h2=>by rw[<-hg];exact h.ro b cs ci h1 h2
 size:=h.size
 os:=h.os
 output:=h.output
 tape:=h.tape
theorem Sim.widen {p:Phi} {m:Mem} {w:World} (h:MR P p m w) {b:Nat} {cs:List AV} {ci:CI} (hb:m.get b=some (.cells cs false)) (hp:p b=some ci) :
  cs.length<=ci.n-ci.d/\Sim P p m w p (m.put b (some (.cells (cs++List.replicate (ci.n-ci.d-cs.length) .undef) false))) w:=by
 obtain⟨arr,el,fr,h1,h2,h3,h4⟩:=h.live b cs false ci hb hp;have hl:cs.length<=ci.n-ci.d:=by
  by_cases h0:cs.length=0
  ·omega
  ·obtain⟨v,hv,_⟩:=h4 (cs.length-1) (cs[cs.length-1]'(by omega)) (xgq (by omega));have:=(Array.getElem?_eq_some_iff.1 hv).1;omega
 refine⟨hl,Sim.turn h hb hp h1 h2 (h3 rfl) (fun i a hi=>?_) (fun _ _=>rfl) rfl rfl rfl rfl⟩
 by_cases hi2:i<cs.length
 ·rw[List.getElem?_append_left hi2]at hi;exact h4 i a hi
 ·rw[List.getElem?_append_right (by omega),List.getElem?_replicate]at hi;split at hi
  ·rename_i hlt;cases hi;have:ci.d+i<arr.size:=by omega
   exact⟨arr[ci.d+i],Array.getElem?_eq_getElem this,by simp[VR]⟩
  ·cases hi
noncomputable def q7v (P:Program) (st:TypeId) (args:List AV) (m:Mem):R:=
 match P.underlying st with
 |some (.slice e)=>(szT P e).bind fun sz=>(q4y P e).bind fun w=>(q3J P e).bind fun zs=>
  match args with
  |[s,.int .i64 i,.sl (some x) sx lx cx ex]=>(q3Q sz (.sl (some x) sx lx cx ex) m).bind fun kn=>
   if 0<kn.1/\0<=i/\kn.2.all AV.one=true then
    match s with
    | .sl none _ 0 0 _=>if i=0 then q0P sz w s (.sl (some x) sx lx cx ex) m else none
    | .sl (some a) s' len cap ex'=>
     if i=len then (if s'=sz\/ex'=true then q0P sz w s (.sl (some x) sx lx cx ex) m else none)
     else if i<len/\s'=sz/\ex'=false/\x.b≠a.b/\0<sz/\0<w/\zs.length=sz/\(len+kn.1)*w<=q0A/\len<=cap then
      match m.get x.b,m.get a.b with
      |some (.cells _ false),some (.cells _ false)=>(q0y m a (len*sz)).bind fun old=>
       if old.all AV.one=true then
        some (.sl (some ⟨m.next,0⟩) sz (len+kn.1) (len+kn.1) false,(m.put a.b none).alloc (old.take (i.toNat*sz)++kn.2++old.drop (i.toNat*sz)))
       else none
      | _,_=>none
     else none
    | _=>none
   else none
  | _=>none
 | _=>none
structure q4D (E:Env) (f:FuncId) (st:TypeId) (sz w:Nat) (zs:List AV):Prop where
 fin:∀(s x:AV) (_n k:Nat) (new:List AV) (sa:Option AA) (sz0 len cap:Nat) (ex:Bool) (xa:AA) (sx cx:Nat) (exx:Bool) (m:Mem) (r:AV×Mem),s=.sl sa sz0 len cap ex->x=.sl (some xa) sx k cx exx->q3Q sz x m=some (k,new)->0<k->new.all AV.one=true->
  ((∃a,sa=some a/\(sz0=sz\/ex=true))\/sa=none/\len=0/\cap=0)->q0P sz w s x m=some r->run E (.fn f) [s,.int .i64 len,x] m=some r
 room:∀(a:AA) (len cap i k:Nat) (xa:AA) (sx cx:Nat) (exx:Bool) (cs old new:List AV) (m:Mem),m.get a.b=some (.cells cs false)->a.o+cap*sz<=cs.length->(cs.drop a.o).take (len*sz)=old->old.all AV.one=true->(∃ds,m.get xa.b=some (.cells ds false))->xa.b≠a.b->
  q3Q sz (.sl (some xa) sx k cx exx) m=some (k,new)->new.all AV.one=true->0<k->0<sz->0<w->zs.length=sz->i<len->(len+k)*w<=q0A->len+k<=cap->
  ∃m2,run E (.fn f) [.sl (some a) sz len cap true,.int .i64 i,.sl (some xa) sx k cx exx] m=some (.sl (some a) sz (len+k) cap true,m2)/\m2.next=m.next/\(∀b,b≠a.b->m2.get b=m.get b)/\
   m2.get a.b=some (.cells (cs.take (a.o+i*sz)++new++old.drop (i*sz)++cs.drop (a.o+(len+k)*sz)) false)
 grow:∀(a:AA) (len cap i k:Nat) (xa:AA) (sx cx:Nat) (exx:Bool) (cs old new:List AV) (m:Mem),m.get a.b=some (.cells cs false)->a.o+cap*sz<=cs.length->(cs.drop a.o).take (len*sz)=old->old.all AV.one=true->(∃ds,m.get xa.b=some (.cells ds false))->xa.b≠a.b->
  q3Q sz (.sl (some xa) sx k cx exx) m=some (k,new)->new.all AV.one=true->0<k->0<sz->0<w->zs.length=sz->i<len->(len+k)*w<=q0A->len<=cap->cap<len+k->
  ∃m2,run E (.fn f) [.sl (some a) sz len cap true,.int .i64 i,.sl (some xa) sx k cx exx] m=some (.sl (some ⟨m.next,0⟩) sz (len+k) (len+k) false,m2)/\m2.next=m.next+1/\(∀b,b≠m.next->m2.get b=m.get b)/\
   m2.get m.next=some (.cells (old.take (i*sz)++new++old.drop (i*sz)) false)
theorem z4w {sz k:Nat} {x:AA} {sx lx cx:Nat} {ex:Bool} {m:Mem} {new:List AV} (h:q3Q sz (.sl (some x) sx lx cx ex) m=some (k,new)):k=lx:=by
 unfold q3Q at h;simp only at h;split at h
 ·obtain⟨cs,_,e⟩:=xoe.1 h;cases e;rfl
 ·cases h
theorem z4x {sz:Nat} {x:AA} {sx lx cx:Nat} {ex:Bool} {m:Mem} {b:Nat} {v:Option Blk} (h:x.b≠b):q3Q sz (.sl (some x) sx lx cx ex) (m.put b v)=q3Q sz (.sl (some x) sx lx cx ex) m:=by
 unfold q3Q q0y;simp only[Mem.get_put,if_neg (fun (e:x.b=b/\b<m.next)=>h e.1)]
theorem q1J {E : Env} (hE : q1i E) {f : FuncId} {st e : TypeId} {sz w : Nat} {zs : List AV} (hst : E.P.underlying st = some (.slice e)) (hsz : szT E.P e = some sz) (hw : q4y E.P e = some w) (hz : q3J E.P e = some zs) (hf : ∃ fn, E.P.funcs[f]? = some fn ∧ fn.body.isSome = true ∧ fn.name ≠ "runtime.NumGoroutine")
  (ht:q4D E f st sz w zs) (args:List AV) (m:Mem) (r:AV) (m':Mem) (h:q7v E.P st args m=some (r,m')):z6b E.P (.fn f) args m r m':=by
 unfold q7v at h;simp only[hst,hsz,hw,hz,Option.bind_some]at h;split at h
 ·rename_i s i x sx lx cx ex;obtain⟨⟨k,new⟩,h1,hA⟩:=be h;clear h;have hk:=z4w h1;subst hk;split at hA
  ·rename_i hc;simp only at hc;obtain⟨c1,c2,c3⟩:=hc;split at hA
   ·rename_i s0 ex0;split at hA
    ·rename_i hi;subst hi;exact q2k hE _ _ _ _ _ (ht.fin _ _ 0 k new none s0 0 0 ex0 x sx cx ex m (r,m') rfl rfl h1 c1 c3 (.inr ⟨rfl,rfl,rfl⟩) hA)
    ·cases hA
   ·rename_i a s' len cap ex';split at hA
    ·rename_i hi;subst hi;split at hA
     ·rename_i hs;exact q2k hE _ _ _ _ _ (ht.fin _ _ len k new (some a) s' len cap ex' x sx cx ex m (r,m') rfl rfl h1 c1 c3 (.inl ⟨a,rfl,hs⟩) hA)
     ·cases hA
    ·split at hA
     ·rename_i hni hcc;obtain⟨d1,rfl,rfl,d3,d4,d5,d6,d7,d8⟩:=hcc;split at hA
      ·rename_i xs cs hx ha;obtain⟨old,h2,hB⟩:=be hA;clear hA;split at hB
       ·rename_i hone;cases hB;obtain⟨i,rfl⟩:=Int.eq_ofNat_of_zero_le c2;simp only[Int.toNat_natCast];have hil:i<len:=by omega
        refine⟨by simp,fun p w0 cargs hm hG hfree hv=>.inl ?_⟩
        obtain⟨fn,g1,g2,g3⟩:=hf;refine⟨fn,g1,g2,g3,?_⟩;simp only[VRs]at hv;obtain⟨v1,_,rfl,hv1,v2,_,rfl,hv2,v3,_,rfl,hv3,rfl⟩:=hv;have hv1':=hv1;simp only[VR,SR]at hv1';obtain⟨ci,off,cap',q1,rfl,q2,q3,q4,q5,q6⟩:=hv1';have q5:=q5 trivial;have ho:off=a.o+ci.d:=q6 (by omega);subst ho;obtain⟨wl,hwide⟩:=Sim.widen hm ha q1;generalize hcs:cs++List.replicate (ci.n-ci.d-cs.length) .undef=cs1 at hwide;have hl1:cs1.length=ci.n-ci.d:=by rw[<-hcs];simp;omega
        generalize hm1:m.put a.b (some (.cells cs1 false))=m1 at hwide;have hal:=Mem.q0v ha;have ha1:m1.get a.b=some (.cells cs1 false):=by rw[<-hm1,Mem.get_put,if_pos ⟨rfl,hal⟩]
        have hoth:∀b,b≠a.b->m1.get b=m.get b:=fun b hb=>by rw[<-hm1,Mem.get_put,if_neg (fun e=>hb e.1)]
        have hnext1:m1.next=m.next:=by rw[<-hm1];rfl
        obtain⟨cs0,ro0,e1,e2,e3⟩:=q1P h2;rw[ha]at e1;cases e1;have hold:(cs1.drop a.o).take (len*s')=old:=by
         rw[e3,<-hcs,List.drop_append_of_le_length (by omega),List.take_append_of_le_length (by simp;omega)]
        have hfit:a.o+cap'*s'<=cs1.length:=by rw[hl1];omega
        have hsrc:q3Q s' (.sl (some x) sx k cx ex) m1=some (k,new):=by rw[<-hm1,z4x d3];exact h1
        have hx1:∃ds,m1.get x.b=some (.cells ds false):=⟨xs,by rw[hoth _ d3];exact hx⟩;have hargs:VRs p [.sl (some a) s' len cap' true,.int .i64 (i:Int),.sl (some x) sx k cx ex] [.slice (some ⟨ci.c,a.o+ci.d,none⟩) len cap',v2,v3]:=by
         simp only[VRs];refine⟨_,_,rfl,?_,_,_,rfl,hv2,_,_,rfl,hv3,rfl⟩;simp only[VR,SR];exact⟨ci,a.o+ci.d,cap',q1,rfl,by omega,xnr _,fun _=>rfl,by simp,fun _=>rfl⟩
        by_cases hroom:len+k<=cap'
        ·obtain⟨m2,r1,r2,r3,r4⟩:=ht.room a len cap' i k x sx cx ex cs1 old new m1 ha1 hfit hold hone hx1 d3 hsrc c3 c1 d4 d5 d6 hil d7 hroom;have hok:=q2k hE _ _ _ _ _ r1;refine(q4g hok g1 g2 g3 hwide.rel (by rw[hnext1];exact hG) (fun b x1 x2=>by omega) hargs).mono ?_
         rintro e0 w1 ⟨cv,p1,rfl,k1,k2⟩
         have hp1:∀b,p1 b=p b:=fun b=>k2.out b (by omega)
         simp only[VR,SR]at k1;obtain⟨ci1,off1,cap1,j1,rfl,j2,j3,j4,j5,j6⟩:=k1;rw[hp1,q1]at j1;cases j1;have hcap:cap1=cap':=j4 trivial;subst hcap;have hoff1:off1=a.o+ci.d:=j6 (by omega);subst hoff1;obtain⟨arr,el,fr,f1,f2,f3,f4⟩:=k2.rel.live _ _ _ _ r4 (by rw[hp1];exact q1);have hfree2:p1 m2.next=none:=by rw[hp1,r2,hnext1];exact hfree _ (xnr _) (by simp)
         have hlo:(old.take (i*s')).length=i*s':=by
          rw[xlt0,<-hold,xlt0,xld0];have:i*s'<=len*s':=Nat.mul_le_mul_right _ (by omega);have:len*s'<=cap1*s':=Nat.mul_le_mul_right _ (by omega);omega
         have htake:=Sim.z4z (P:=E.P) (d:=a.o+ci.d) (cs':=old.take (i*s')++new++old.drop (i*s')) k2.rel (by rw[r2,hnext1];exact hG) r4 (by rw[hp1];exact q1) hfree2 f1 f2 (f3 rfl) (fun j y hj=>by
          obtain⟨v,u1,u2⟩:=f4 (a.o+j) y (by
           have hpre:cs1.take (a.o+i*s')=cs1.take a.o++old.take (i*s'):=by
            rw[<-hold,List.take_take,Nat.min_eq_left (Nat.mul_le_mul_right _ (by omega)),<-List.take_add]
           have hao:(cs1.take a.o).length=a.o:=by rw[xlt0];have:0<=cap1*s':=Nat.zero_le _;omega
           rw[hpre];simp only[List.append_assoc];rw[List.getElem?_append_right (by omega),hao,Nat.add_sub_cancel_left];rw[<-List.append_assoc,<-List.append_assoc,List.getElem?_append_left (by have:=(xgi.1 hj).1;simpa[Nat.add_assoc]using this)];exact hj)
          exact⟨v,by rw[<-Nat.add_assoc,Nat.add_comm ci.d a.o]at u1;exact u1,u2⟩) (fun _ _=>rfl) rfl rfl rfl rfl
         refine⟨_,_,rfl,?_,((hwide.trans k2 (fun b x1 x2=>by omega)).trans htake ?_).congr ?_ ?_⟩
         ·simp only[VR,SR];refine⟨⟨ci.c,a.o+ci.d,ci.n⟩,a.o+ci.d,cap1,by simp[r2,hnext1],rfl,xnr _,by omega,by simp,fun _=>by simpa using q5,fun _=>by simp⟩
         ·intro b x1 x2;simp[r2,hnext1]at x2;exact hfree b x1 (by simpa using x2)
         ·simp[r2,hnext1]
         ·intro b;rw[Mem.q2F,Mem.q2F,Mem.q4n,Mem.q4n,r2,hnext1,Mem.get_put,Mem.get_put];by_cases e:b=m.next
          ·simp[e]
          ·rw[if_neg e,if_neg e];by_cases e2:b=a.b
           ·subst e2;rw[if_pos ⟨rfl,by omega⟩,if_pos ⟨rfl,hal⟩]
           ·rw[if_neg (fun y=>e2 y.1),if_neg (fun y=>e2 y.1),r3 b e2,hoth b e2]
        ·obtain⟨m2,r1,r2,r3,r4⟩:=ht.grow a len cap' i k x sx cx ex cs1 old new m1 ha1 hfit hold hone hx1 d3 hsrc c3 c1 d4 d5 d6 hil d7 (by omega) (by omega);have hok:=q2k hE _ _ _ _ _ r1;have hfree1:q5x p m1.next m2.next:=by intro b x1 x2;rw[r2,hnext1]at x2;rw[hnext1]at x1;exact hfree b x1 (by simpa using x2)
         refine(q4g hok g1 g2 g3 hwide.rel (by rw[hnext1];exact hG) hfree1 hargs).mono ?_;rintro e0 w1 ⟨cv,p1,rfl,k1,k2⟩
         have ha2:m2.get a.b=some (.cells cs1 false):=by rw[r3 a.b (by omega)];exact ha1
         have hpa:p1 a.b=some ci:=k2.le _ _ q1;have hkill:=Sim.kill k2.rel ha2 hpa;refine⟨cv,p1,rfl,by rw[hnext1]at k1;exact k1,((hwide.trans k2 (by rw[<-hnext1];exact hfree1)).trans hkill ?_).congr ?_ ?_⟩
         ·intro b x1 x2;simp only[Mem.q4n,r2,hnext1]at x2;exact hfree b x1 (by simpa using x2)
         ·simp[r2,hnext1]
         ·intro b;rw[Mem.q2F,Mem.q4n,Mem.get_put,Mem.get_put];by_cases e:b=m.next
          ·subst e;rw[if_neg (by omega),if_pos rfl,<-hnext1,r4]
          ·rw[if_neg e];by_cases e2:b=a.b
           ·subst e2;rw[if_pos ⟨rfl,by omega⟩,if_pos ⟨rfl,hal⟩]
           ·rw[if_neg (fun y=>e2 y.1),if_neg (fun y=>e2 y.1),r3 b (by omega),hoth b e2]
       ·cases hB
      ·cases hA
     ·cases hA
   ·cases hA
  ·cases hA
 ·cases h
end
end
end Go.Abs
namespace Go.Proofs.YtlginbmjiecglaaGreatDoor
section
open Go Go.Abs
set_option maxRecDepth 4000
theorem looks:(List.range 196).all (z7k Tryz.prog hints)=true:=by kernel_rfl
noncomputable def H0 (f:FuncId):Option (List AV->Mem->R):=
 match f with
 | 59=>some q4w
 | 60=>some q7q
 | 120=>some q0I
 | 122=>some q0I
 | 124=>some q0I
 | 128=>some q0I
 | 130=>some q0I
 | _=>none
noncomputable def E0:Env:=z4R Tryz.prog hints H0
theorem q7w:q1i E0:=q8B (by kernel_rfl) 196 (fun f h=>by
  unfold hints;rw[List.getElem?_eq_none (by show 196<=f;exact h)];rfl) (fun f h=>List.all_eq_true.1 looks f (List.mem_range.2 h)) (fun f h e=>by
  unfold H0 at e;split at e
  ·have e1:=xsj e;subst e1;exact q8l (P:=Tryz.prog) (fn:=Tryz.f59) Tryz.func59 (by kernel_rfl) (by kernel_rfl) (by kernel_rfl) (by kernel_rfl)
  ·have e1:=xsj e;subst e1;exact q9G (P:=Tryz.prog) (fn:=Tryz.f60) Tryz.func60 (by kernel_rfl) (by kernel_rfl) (by kernel_rfl) (by kernel_rfl)
  ·have e1:=xsj e;subst e1;exact q0R (P:=Tryz.prog) (fn:=Tryz.f120) (st:=140) (tr:=4) (e:=9) (sz:=1) Tryz.func120 (by kernel_rfl) (by kernel_rfl) (by kernel_rfl) (by kernel_rfl) (by kernel_rfl) (by kernel_rfl)
  ·have e1:=xsj e;subst e1;exact q0R (P:=Tryz.prog) (fn:=Tryz.f122) (st:=23) (tr:=4) (e:=56) (sz:=4) Tryz.func122 (by kernel_rfl) (by kernel_rfl) (by kernel_rfl) (by kernel_rfl) (by kernel_rfl) (by kernel_rfl)
  ·have e1:=xsj e;subst e1;exact q0R (P:=Tryz.prog) (fn:=Tryz.f124) (st:=24) (tr:=4) (e:=74) (sz:=9) Tryz.func124 (by kernel_rfl) (by kernel_rfl) (by kernel_rfl) (by kernel_rfl) (by kernel_rfl) (by kernel_rfl)
  ·have e1:=xsj e;subst e1;exact q0R (P:=Tryz.prog) (fn:=Tryz.f128) (st:=149) (tr:=4) (e:=26) (sz:=1) Tryz.func128 (by kernel_rfl) (by kernel_rfl) (by kernel_rfl) (by kernel_rfl) (by kernel_rfl) (by kernel_rfl)
  ·have e1:=xsj e;subst e1;exact q0R (P:=Tryz.prog) (fn:=Tryz.f130) (st:=25) (tr:=4) (e:=54) (sz:=4) Tryz.func130 (by kernel_rfl) (by kernel_rfl) (by kernel_rfl) (by kernel_rfl) (by kernel_rfl) (by kernel_rfl)
  ·cases e)
end
end Go.Proofs.YtlginbmjiecglaaGreatDoor
